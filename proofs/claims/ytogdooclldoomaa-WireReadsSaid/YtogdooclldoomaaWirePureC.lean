import Derived.Test.YtogdooclldoomaaWireRefT
namespace Go.Proofs.Ytogdooclldoomaa.F
open Go.RowKit Go.Proofs.YtogdooclldoomaaW.PrintWords Go.Proofs.YtogdooclldoomaaW.PrintLast Go.Proofs.YtogdooclldoomaaW.PrintMore
set_option linter.unusedSimpArgs false
set_option linter.unusedVariables false
/-! What the program's reader reads is the document's, without the program. -/
theorem rd_nat (l : List Int) (i : Nat) (h : i < l.length) : rd l (i : Int) = l[i] := by
  unfold rd
  rw [Int.toNat_natCast, List.getD_eq_getElem?_getD, List.getElem?_eq_getElem h]
  rfl
def refAns (at0 top : Int) (q : Int × Int × Int) : Int × Int × Int :=
  if q.2.2 = 0 then if top < q.1 then (0, at0, 6) else (q.1, at0 + q.2.1, 0) else (0, at0, q.2.2)
theorem refNum_l0 (B : List Int) (hB : ∀ x ∈ B, 0 ≤ x ∧ x < 256) (hl : B.length ≤ 1000000) (top : Int) (at0 : Nat) : ∀ (m i : Nat) (acc : Int), i + m = 9 → 0 ≤ acc → acc < 2 ^ (7 * i) → at0 + i ≤ B.length →
    Ev (fun k => tombolaref05_Reader_Num.l0 k top (at0 : Int) acc (2 ^ (7 * i)) (i : Int) B ((at0 + i : Nat) : Int) 0) (refAns (at0 : Int) top (lookL (B.drop (at0 + i)) i acc)) := by
  intro m
  induction m with
  | zero =>
    intro i acc hi ha0 ha1 hle
    obtain rfl : i = 9 := by omega
    by_cases hend : at0 + 9 = B.length
    · rw [List.drop_eq_nil_of_le (by omega)]
      refine Ev.step (f := fun _ => some (0, (at0 : Int), 4)) (fun k => ?_) (Ev.now _)
      simp only [tombolaref05_Reader_Num.l0]
      rw [if_pos (by omega)]
      rfl
    · have hlt : at0 + 9 < B.length := by omega
      have hc := hB B[at0 + 9] (List.getElem_mem hlt)
      rw [List.drop_eq_getElem_cons hlt]
      have hcw : Aside0 (IntKind.u64.wrap (rd B ((at0 + 9 : Nat) : Int)) = B[at0 + 9]) := ⟨by
        rw [rd_nat B _ hlt, wrap_u64]
        omega⟩
      generalize B[at0 + 9] = c at hc hcw ⊢
      unfold lookL
      by_cases hbad : c ≤ 1
      · have hn0 : ¬ ((decide ((0 : Int) < ((9 : Nat) : Int)) && c == 0) || (((9 : Nat) : Int) == 9 && decide (1 < c))) = true ↔ ¬ c = 0 := by
          rw [decide_eq_false (show ¬ 1 < c by omega)]
          simp
        by_cases hz : c = 0
        · rw [if_pos (by rw [← Decidable.not_not (p := (_ = true)), hn0]; simpa using hz)]
          refine Ev.step (f := fun k => tombolaref05_Reader_Num.j1 k top (at0 : Int) acc (2 ^ (7 * 9)) ((9 : Nat) : Int) c true B ((at0 + 9 : Nat) : Int) 0) (fun k => ?_) (Ev.step (f := fun _ => some (0, (at0 : Int), 3)) (fun k => ?_) (Ev.now _))
          · simp only [tombolaref05_Reader_Num.l0]
            rw [if_neg (by omega), if_pos (by omega), if_pos (by omega), hcw.out, if_pos hz, if_pos (by omega)]
          · simp only [tombolaref05_Reader_Num.j1]
            rw [if_pos trivial]
            rfl
        · have h1 : c = 1 := by omega
          subst h1
          rw [if_neg (by decide), if_pos (by decide), lookN_val acc 1 9 (by decide) ha0 ha1 (by decide) (by decide) (by decide)]
          have hv : acc + 1 % 128 * 2 ^ (7 * 9) < 18446744073709551616 := by
            have e : (2 : Int) ^ (7 * 9) = 9223372036854775808 := by decide
            rw [e] at ha1 ⊢
            omega
          refine Ev.step (f := fun k => tombolaref05_Reader_Num.j1 k top (at0 : Int) acc (2 ^ (7 * 9)) ((9 : Nat) : Int) 1 (decide ((1 : Int) > 1)) B ((at0 + 9 : Nat) : Int) 0) (fun k => ?_) (Ev.step (f := fun _ => some (refAns (at0 : Int) top (acc + 1 % 128 * 2 ^ (7 * 9), ((9 + 1 : Nat) : Int), 0))) (fun k => ?_) (Ev.now _))
          · simp only [tombolaref05_Reader_Num.l0]
            rw [if_neg (by omega), if_pos (by omega), if_pos (by omega), hcw.out, if_neg (by decide), if_pos (by rfl)]
          · simp only [tombolaref05_Reader_Num.j1]
            have e1 : Aside0 (IntKind.u64.wrap (acc + (IntKind.u64.wrap ((Int.tmod 1 128) * 2 ^ (7 * 9)))) = acc + 1 % 128 * 2 ^ (7 * 9)) := ⟨by
              have e : (2 : Int) ^ (7 * 9) = 9223372036854775808 := by decide
              rw [e] at ha1 hv ⊢
              rw [wrap_u64, wrap_u64, show Int.tmod 1 128 = 1 from rfl]
              omega⟩
            rw [if_neg (by decide), if_pos (by decide), e1.out]
            unfold refAns
            rw [if_pos rfl]
            by_cases ht : top < acc + 1 % 128 * 2 ^ (7 * 9)
            · rw [if_pos ht, if_pos ht]; rfl
            · rw [if_neg ht, if_neg ht]
              congr 3
              show wrap64 (((at0 + 9 : Nat) : Int) + 1) = (at0 : Int) + ((9 + 1 : Nat) : Int)
              clear hv ht e1 ha1
              unfold wrap64
              omega
      · rw [if_pos (by rw [decide_eq_true (show 1 < c by omega)]; simp)]
        refine Ev.step (f := fun k => tombolaref05_Reader_Num.j1 k top (at0 : Int) acc (2 ^ (7 * 9)) ((9 : Nat) : Int) c true B ((at0 + 9 : Nat) : Int) 0) (fun k => ?_) (Ev.step (f := fun _ => some (0, (at0 : Int), 3)) (fun k => ?_) (Ev.now _))
        · simp only [tombolaref05_Reader_Num.l0]
          rw [if_neg (by omega), if_pos (by omega), if_pos (by omega), hcw.out, if_neg (by omega), if_pos (by rfl), decide_eq_true (show c > 1 by omega)]
        · simp only [tombolaref05_Reader_Num.j1]
          rw [if_pos trivial]
          rfl
  | succ m ih =>
    intro i acc hi ha0 ha1 hle
    have hi9 : i ≤ 8 := by omega
    by_cases hend : at0 + i = B.length
    · rw [List.drop_eq_nil_of_le (by omega)]
      refine Ev.step (f := fun _ => some (0, (at0 : Int), 4)) (fun k => ?_) (Ev.now _)
      simp only [tombolaref05_Reader_Num.l0]
      rw [if_pos (by omega)]
      rfl
    · have hlt : at0 + i < B.length := by omega
      have hc := hB B[at0 + i] (List.getElem_mem hlt)
      rw [List.drop_eq_getElem_cons hlt]
      have hcw : Aside0 (IntKind.u64.wrap (rd B ((at0 + i : Nat) : Int)) = B[at0 + i]) := ⟨by
        rw [rd_nat B _ hlt, wrap_u64]
        omega⟩
      have hpw : (2 : Int) ^ (7 * i) ≤ 2 ^ 56 := by
        have := Nat.pow_le_pow_right (n := 2) (by decide) (show 7 * i ≤ 56 by omega)
        exact_mod_cast this
      have hpos : (0 : Int) < 2 ^ (7 * i) := Int.pow_pos (by decide)
      have ep : (2 : Int) ^ (7 * (i + 1)) = 2 ^ (7 * i) * 128 := by rw [show 7 * (i + 1) = 7 * i + 7 by omega, Int.pow_add]; rfl
      have e56 : (2 : Int) ^ 56 = 72057594037927936 := by decide
      rw [e56] at hpw
      generalize B[at0 + i] = c at hc hcw ⊢
      have hb9 : (((i : Nat) : Int) == 9) = false := beq_eq_false_iff_ne.mpr (by omega)
      unfold lookL
      rw [hb9, Bool.false_and, Bool.or_false]
      by_cases hz : 0 < i ∧ c = 0
      · rw [if_pos (by rw [decide_eq_true (show (0 : Int) < (i : Int) by omega), hz.2]; rfl)]
        refine Ev.step (f := fun k => tombolaref05_Reader_Num.j1 k top (at0 : Int) acc (2 ^ (7 * i)) (i : Int) c true B ((at0 + i : Nat) : Int) 0) (fun k => ?_) (Ev.step (f := fun _ => some (0, (at0 : Int), 3)) (fun k => ?_) (Ev.now _))
        · simp only [tombolaref05_Reader_Num.l0]
          rw [if_neg (by omega), if_pos (by omega), if_pos (by omega), hcw.out, if_pos hz.2, if_pos (by omega)]
        · simp only [tombolaref05_Reader_Num.j1]
          rw [if_pos trivial]
          rfl
      · rw [if_neg (by
          intro h
          rw [Bool.and_eq_true] at h
          exact hz ⟨by have := of_decide_eq_true h.1; omega, eq_of_beq h.2⟩)]
        refine Ev.step (f := fun k => tombolaref05_Reader_Num.j1 k top (at0 : Int) acc (2 ^ (7 * i)) (i : Int) c false B ((at0 + i : Nat) : Int) 0) (fun k => ?_) ?_
        · simp only [tombolaref05_Reader_Num.l0]
          rw [if_neg (by omega), if_pos (by omega), if_pos (by omega), hcw.out]
          by_cases hc0 : c = 0
          · rw [if_pos hc0, if_neg (by omega), if_neg (by omega)]
          · rw [if_neg hc0, if_neg (by omega)]
        · rw [lookN_val acc c i (by omega) ha0 ha1 hc.1 hc.2 (by omega)]
          have hm0 : 0 ≤ c % 128 ∧ c % 128 ≤ 127 := by omega
          have hy : c % 128 * 2 ^ (7 * i) ≤ 127 * 2 ^ (7 * i) := Int.mul_le_mul_of_nonneg_right hm0.2 (Int.le_of_lt hpos)
          have hy0 : 0 ≤ c % 128 * 2 ^ (7 * i) := Int.mul_nonneg hm0.1 (Int.le_of_lt hpos)
          have e1 : Aside0 (IntKind.u64.wrap (acc + (IntKind.u64.wrap ((Int.tmod c 128) * 2 ^ (7 * i)))) = acc + c % 128 * 2 ^ (7 * i)) := ⟨by
            rw [Int.tmod_eq_emod_of_nonneg hc.1]
            generalize c % 128 * 2 ^ (7 * i) = y at hy hy0 ⊢
            generalize (2 : Int) ^ (7 * i) = p at *
            rw [wrap_u64, wrap_u64]
            omega⟩
          have e2 : Aside0 (IntKind.u64.wrap ((2 : Int) ^ (7 * i) * 128) = 2 ^ (7 * (i + 1))) := ⟨by rw [ep, wrap_u64]; generalize (2 : Int) ^ (7 * i) = p at hpw hpos ⊢; clear ha1 hy ep; omega⟩
          have e3 : Aside0 (wrap64 ((i : Int) + 1) = ((i + 1 : Nat) : Int)) := ⟨by clear ha1 hy hy0 ep hpw hpos; unfold wrap64; omega⟩
          have e4 : Aside0 (wrap64 (((at0 + i : Nat) : Int) + 1) = ((at0 + (i + 1) : Nat) : Int)) := ⟨by clear ha1 hy hy0 ep hpw hpos; unfold wrap64; omega⟩
          by_cases hd : c < 128
          · rw [if_pos (decide_eq_true hd)]
            refine Ev.step (f := fun _ => some (refAns (at0 : Int) top (acc + c % 128 * 2 ^ (7 * i), ((i + 1 : Nat) : Int), 0))) (fun k => ?_) (Ev.now _)
            simp only [tombolaref05_Reader_Num.j1]
            rw [if_neg (by decide), if_pos hd, e1.out, e4.out]
            unfold refAns
            rw [if_pos rfl]
            by_cases ht : top < acc + c % 128 * 2 ^ (7 * i)
            · rw [if_pos ht, if_pos ht]; rfl
            · rw [if_neg ht, if_neg ht]
              congr 3
          · rw [if_neg (by rw [decide_eq_true_eq]; exact hd)]
            refine Ev.step (f := fun k => tombolaref05_Reader_Num.l0 k top (at0 : Int) (acc + c % 128 * 2 ^ (7 * i)) (2 ^ (7 * (i + 1))) ((i + 1 : Nat) : Int) B ((at0 + (i + 1) : Nat) : Int) 0) (fun k => ?_) ?_
            · simp only [tombolaref05_Reader_Num.j1]
              rw [if_neg (by decide), if_neg hd, e1.out, e2.out, e3.out, e4.out]
            · exact ih (i + 1) _ (by omega) (by omega) (by rw [ep]; generalize c % 128 * 2 ^ (7 * i) = y at hy hy0 ⊢; omega) (by omega)
theorem lookL_err (l : List Int) : ∀ (i : Nat) (n : Int), (lookL l i n).2.2 = 0 ∨ (lookL l i n).2.2 = 3 ∨ (lookL l i n).2.2 = 4 := by
  induction l with
  | nil => intro i n; exact .inr (.inr rfl)
  | cons c l ih =>
    intro i n
    unfold lookL
    split
    · exact .inr (.inl rfl)
    · split
      · exact .inl rfl
      · exact ih _ _
theorem num_sim (B : List Int) (hB : ∀ x ∈ B, 0 ≤ x ∧ x < 256) (hl : B.length ≤ 1000000) (e top : Int) (a : Nat) (ha : a ≤ B.length) :
    ∃ k a', tombolaref05_Reader_Num.f k B (a : Int) e top = some ((numR (B.drop a) e top).1, ((a' : Nat) : Int), (numR (B.drop a) e top).2.2) ∧ a' ≤ B.length ∧ (numR (B.drop a) e top).2.1 = B.drop a' ∧ ((numR (B.drop a) e top).2.2 ≠ 0 → a' = a) := by
  unfold numR
  by_cases he : e = 0
  · subst he
    rw [if_pos (rfl : (0 : Int) = 0)]
    have h := refNum_l0 B hB hl top a 9 0 0 (by decide) (by decide) (by decide) (by omega)
    obtain ⟨k, hk⟩ := Ev.rounds h
    rw [Nat.add_zero] at hk
    have hs := lookL_size (B.drop a) 0 0
    refine ⟨k, ?_⟩
    have hk' : tombolaref05_Reader_Num.f k B (a : Int) 0 top = some (refAns (a : Int) top (lookL (B.drop a) 0 0)) := by
      unfold tombolaref05_Reader_Num.f
      rw [if_pos (rfl : (0 : Int) = 0)]
      exact hk
    rw [hk']
    unfold refAns
    by_cases hq : (lookL (B.drop a) 0 0).2.2 = 0
    · have hs2 := hs hq
      rw [List.length_drop] at hs2
      rw [if_pos hq, if_pos hq]
      by_cases ht : top < (lookL (B.drop a) 0 0).1
      · rw [if_pos ht, if_pos ht]
        exact ⟨a, rfl, ha, rfl, fun _ => rfl⟩
      · rw [if_neg ht, if_neg ht]
        refine ⟨a + (lookL (B.drop a) 0 0).2.1.toNat, ?_, by omega, by rw [List.drop_drop], fun h => absurd rfl h⟩
        simp only [Option.some.injEq, Prod.mk.injEq, true_and, and_true]
        omega
    · rw [if_neg hq, if_neg hq]
      exact ⟨a, rfl, ha, rfl, fun _ => rfl⟩
  · rw [if_neg he]
    exact ⟨0, a, by unfold tombolaref05_Reader_Num.f; rw [if_neg he], ha, rfl, fun _ => rfl⟩
theorem int_sim (B : List Int) (hB : ∀ x ∈ B, 0 ≤ x ∧ x < 256) (hl : B.length ≤ 1000000) (e top : Int) (a : Nat) (ha : a ≤ B.length) :
    ∃ k a', tombolaref05_Reader_Int.f k B (a : Int) e top = some ((intR (B.drop a) e top).1, ((a' : Nat) : Int), (intR (B.drop a) e top).2.2) ∧ a' ≤ B.length ∧ (intR (B.drop a) e top).2.1 = B.drop a' ∧ ((intR (B.drop a) e top).2.2 ≠ 0 → a' = a) := by
  unfold tombolaref05_Reader_Int.f intR
  by_cases ht : top < 0
  · have em : mx top 0 = 0 := by unfold mx; split <;> omega
    obtain ⟨k, a', h1, h2, h3, h4⟩ := num_sim B hB hl e 0 a ha
    refine ⟨k, a', ?_, ?_⟩
    · rw [if_pos ht, h1, em]
      rfl
    · rw [em]
      exact ⟨h2, h3, h4⟩
  · have em : mx top 0 = top := by unfold mx; split <;> omega
    obtain ⟨k, a', h1, h2, h3, h4⟩ := num_sim B hB hl e (IntKind.u64.wrap top) a ha
    refine ⟨k, a', ?_, ?_⟩
    · rw [if_neg ht, h1, em]
      rfl
    · rw [em]
      exact ⟨h2, h3, h4⟩
theorem text_sim (B : List Int) (hB : ∀ x ∈ B, 0 ≤ x ∧ x < 256) (hl : B.length ≤ 1000000) (e top : Int) (htop : top ≤ 9223372036854775807) (a : Nat) (ha : a ≤ B.length) :
    ∃ k n a2 e2 a', tombolaref05_Reader_Int.f k B (a : Int) e top = some (n, ((a2 : Nat) : Int), e2) ∧ a2 ≤ B.length ∧ (e2 = 0 → 0 ≤ n) ∧ refTextR B (a : Int) n (a2 : Int) e2 = ((textR (B.drop a) e top).1, ((a' : Nat) : Int), (textR (B.drop a) e top).2.2) ∧ a' ≤ B.length ∧ (textR (B.drop a) e top).2.1 = B.drop a' := by
  obtain ⟨k, a2, h1, h2, h3, h4⟩ := int_sim B hB hl e top a ha
  have hn := (intR_range (B.drop a) e top htop).1
  refine ⟨k, (intR (B.drop a) e top).1, a2, (intR (B.drop a) e top).2.2, ?_⟩
  unfold refTextR textR
  by_cases he : e = 0
  · subst he
    rw [if_pos (rfl : (0 : Int) = 0)]
    by_cases hq : (intR (B.drop a) 0 top).2.2 = 0
    · rw [if_pos hq]
      have hlen : ((intR (B.drop a) 0 top).2.1.length : Int) = (B.length : Int) - (a2 : Int) := by rw [h3, List.length_drop]; omega
      by_cases hs : (B.length : Int) - (a2 : Int) < (intR (B.drop a) 0 top).1
      · refine ⟨a, h1, h2, fun _ => hn, ?_, ha, ?_⟩
        · rw [if_pos hs, if_pos hq, hlen, if_pos hs]
        · rw [if_pos hq, hlen, if_pos hs]
      · refine ⟨a2 + (intR (B.drop a) 0 top).1.toNat, h1, h2, fun _ => hn, ?_, by omega, ?_⟩
        · rw [if_neg hs, if_pos hq, hlen, if_neg hs, h3, Int.toNat_natCast]
          simp only [Prod.mk.injEq, true_and, and_true]
          omega
        · rw [if_pos hq, hlen, if_neg hs, h3, List.drop_drop]
    · have ha2 := h4 hq
      subst ha2
      exact ⟨a2, h1, h2, fun h => absurd h hq, by rw [if_neg hq, if_neg hq], h2, by rw [if_neg hq]⟩
  · have hq : (intR (B.drop a) e top).2.2 = e := by
      unfold intR numR
      rw [if_neg he]
    have hne : ¬ (intR (B.drop a) e top).2.2 = 0 := by rw [hq]; exact he
    have ha2 := h4 hne
    subst ha2
    exact ⟨a2, h1, h2, fun h => absurd h hne, by rw [if_neg hne, if_neg he, hq], h2, by rw [if_neg he]⟩
end Go.Proofs.Ytogdooclldoomaa.F
