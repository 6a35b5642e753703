/- Sums, differences, products and the order of wide numbers are what the document says of them, and whether they fit is. Conditions: none beyond the row's own. -/
import Derived.Test.YtogdooclldoomaaWideB
import Derived.Test.YtogdooclldoomaaNatC
import Derived.Test.YtogdooclldoomaaFLaw01WideBig
namespace Go.Proofs.Ytogdooclldoomaa.Pure
open Go Go.RowKit Go.Proofs.Ytogdooclldoomaa.F Go.Proofs.YtogdooclldoomaaW.PrintWords Go.Proofs.YtogdooclldoomaaW.PrintLast Go.Proofs.Ytogdooclldoomaa.Digs Go.Proofs.Ytogdooclldoomaa.N

theorem wfB {x : Int} (h : (Lit.int .u64 x).wf = true) : ∃ n : Nat, x = n ∧ n < 18446744073709551616 := by
  have h2 : 0 ≤ x ∧ x ≤ 18446744073709551615 := by simpa [Lit.wf, IntKind.min, IntKind.max, IntKind.signed, IntKind.bits] using h
  exact ⟨x.toNat, by omega, by omega⟩
theorem compare_eq (a b : Nat) : cmp_Compare_uint64.f a b = some (cmpN a b) := by
  unfold cmp_Compare_uint64.f cmp_isNaN_uint64.f cmpN
  simp only [Option.bind_some, bne_self_eq_false, Bool.false_eq_true, if_false]
  by_cases h : a < b
  · rw [if_pos (by omega), if_pos h]
  · rw [if_neg (by omega), if_neg h]
    by_cases h2 : b < a
    · rw [if_pos (by omega), if_pos h2]
    · rw [if_neg (by omega), if_neg h2]
theorem or_ev (x y : Int) : Ev (fun k => cmp_Or_int.f k [x, y]) (if x = 0 then y else x) := by
  have w1 : wrap64 (0 + 1) = 1 := by unfold wrap64; omega
  have w2 : wrap64 (1 + 1) = 2 := by unfold wrap64; omega
  refine ⟨3, fun k hk => ?_⟩
  obtain ⟨k, rfl⟩ : ∃ m, k = m + 3 := ⟨k - 3, by omega⟩
  unfold cmp_Or_int.f
  simp only [cmp_Or_int.l0, List.length_cons, List.length_nil, rd, w1, w2]
  by_cases hx : x = 0
  · subst hx
    by_cases hy : y = 0
    · subst hy; simp
    · simp [hy]
  · simp [hx]
theorem cmpw_ev (ah al bh bl : Nat) (h2 : al < 18446744073709551616) (h4 : bl < 18446744073709551616) :
    Ev (fun k => wide_Cmp.f k ah al bh bl) (cmpN (ah * 18446744073709551616 + al) (bh * 18446744073709551616 + bl)) := by
  unfold wide_Cmp.f
  rw [compare_eq ah bh, compare_eq al bl]
  simp only [Option.bind_some]
  have h := or_ev (cmpN ah bh) (cmpN al bl)
  have e : (if cmpN ah bh = 0 then cmpN al bl else cmpN ah bh) = cmpN (ah * 18446744073709551616 + al) (bh * 18446744073709551616 + bl) := by
    by_cases c1 : ah < bh
    · have c2 : ah * 18446744073709551616 + al < bh * 18446744073709551616 + bl := by omega
      have d1 : cmpN ah bh = -1 := by unfold cmpN; rw [if_pos c1]
      have d2 : cmpN (ah * 18446744073709551616 + al) (bh * 18446744073709551616 + bl) = -1 := by unfold cmpN; rw [if_pos c2]
      rw [d1, d2, if_neg (by decide)]
    · by_cases c3 : bh < ah
      · have c4 : bh * 18446744073709551616 + bl < ah * 18446744073709551616 + al := by omega
        have c5 : ¬ ah * 18446744073709551616 + al < bh * 18446744073709551616 + bl := by omega
        have d1 : cmpN ah bh = 1 := by unfold cmpN; rw [if_neg c1, if_pos c3]
        have d2 : cmpN (ah * 18446744073709551616 + al) (bh * 18446744073709551616 + bl) = 1 := by unfold cmpN; rw [if_neg c5, if_pos c4]
        rw [d1, d2, if_neg (by decide)]
      · obtain rfl : ah = bh := by omega
        have d1 : cmpN ah ah = 0 := by unfold cmpN; rw [if_neg c1, if_neg c1]
        rw [d1, if_pos rfl]
        unfold cmpN
        simp only [Nat.add_lt_add_iff_left]
  rw [e] at h
  exact Ev.bindN h rfl
theorem less_ev (ah al bh bl : Nat) (h1 : ah < 18446744073709551616) (h2 : al < 18446744073709551616) (h3 : bh < 18446744073709551616) (h4 : bl < 18446744073709551616) (A B : Nat) (hA : A = ah * 18446744073709551616 + al) (hB : B = bh * 18446744073709551616 + bl) :
    Ev (fun k => wide_Less.f k ah al bh bl) (if A < B then (0, 0, false) else ((((A - B) / 18446744073709551616 : Nat) : Int), (((A - B) % 18446744073709551616 : Nat) : Int), true)) := by
  unfold wide_Less.f
  have hc := cmpw_ev ah al bh bl h2 h4
  rw [← hA, ← hB] at hc
  refine Ev.bindN hc ?_
  by_cases h : A < B
  · have e : cmpN A B = -1 := by unfold cmpN; rw [if_pos h]
    rw [e, if_pos h, if_pos (by decide)]
  · have e : ¬ cmpN A B < 0 := by unfold cmpN; rw [if_neg h]; split <;> decide
    rw [if_neg e, if_neg h]
    have q1 : bh ≤ ah := by omega
    by_cases hl : al < bl
    · have z1 : IntKind.u64.wrap ((ah : Int) - bh) = ((ah - bh : Nat) : Int) := by rw [u64w (by omega) (by omega)]; omega
      have q2 : bh < ah := by clear z1; omega
      have z2 : IntKind.u64.wrap (((ah - bh : Nat) : Int) - 1) = (((A - B) / 18446744073709551616 : Nat) : Int) := by clear z1; rw [u64w (by omega) (by omega)]; omega
      have z3 : IntKind.u64.wrap ((al : Int) - bl) = (((A - B) % 18446744073709551616 : Nat) : Int) := by clear z1 z2; rw [u64_mod]; omega
      rw [if_pos (by exact Int.ofNat_lt.2 hl), z1, z2, z3]
    · have z1 : IntKind.u64.wrap ((ah : Int) - bh) = (((A - B) / 18446744073709551616 : Nat) : Int) := by rw [u64w (by omega) (by omega)]; omega
      have z3 : IntKind.u64.wrap ((al : Int) - bl) = (((A - B) % 18446744073709551616 : Nat) : Int) := by clear z1; rw [u64_mod]; omega
      rw [if_neg (fun h => hl (Int.ofNat_lt.1 h)), z1, z3]
theorem big_end (A B : Nat) (hA : A < 340282366920938463463374607431768211456) (t : Int × Int × Bool) (ht : t = if A < B then (0, 0, false) else ((((A - B) / 18446744073709551616 : Nat) : Int), (((A - B) % 18446744073709551616 : Nat) : Int), true)) (hl : (digs A).length ≤ 8) :
    Ev (fun k => tombolalaw01_WideBig.j0 k t.2.2 (cmpN A B) (cmpN A B != cmpN A B) (digs A) (digs B) t.1 t.2.1) true := by
  subst ht
  rw [bne_self_eq_false]
  by_cases h : A < B
  · rw [if_pos h]
    refine Ev.step (f := fun k => (tombolalaw01_alive.f k).bind fun t139 => some t139) (fun k => ?_) (Ev.bindN alive01_ev rfl)
    have e : cmpN A B = -1 := by unfold cmpN; rw [if_pos h]
    simp only [tombolalaw01_WideBig.j0]
    rw [e]; simp
  · rw [if_neg h]
    have e : ¬ cmpN A B < 0 := by unfold cmpN; rw [if_neg h]; split <;> decide
    have hs := sub_ev A B (by omega) (by omega)
    have hb := big_yes (A - B) (by omega) _ _ rfl rfl
    refine Ev.step (f := fun k => (tombolaref01_Sub.f k (digs A) (digs B)).bind fun t140 => ((tombolalaw01_big.f k (((A - B) / 18446744073709551616 : Nat) : Int) (((A - B) % 18446744073709551616 : Nat) : Int) true t140).bind fun t143 => (if t143 = true then ((tombolalaw01_alive.f k).bind fun t144 => (some t144)) else (some false)))) (fun k => ?_) ?_
    · simp only [tombolalaw01_WideBig.j0]
      rw [if_neg (by decide), if_neg e]
    · refine Ev.bind hs (Ev.bind hb ?_)
      exact Ev.congr (fun k => if_pos rfl) (Ev.bindN alive01_ev rfl)
theorem two_words (A hi lo : Nat) (hA : A = hi * 18446744073709551616 + lo) (h1 : hi < 18446744073709551616) (h2 : lo < 18446744073709551616) : A < 340282366920938463463374607431768211456 := by omega
theorem fits_ab (A hi lo : Nat) (hA : A = hi * 18446744073709551616 + lo) (h2 : lo < 18446744073709551616) : (if (hi : Int) > 0 then ((0 : Int), false) else ((lo : Int), true)) = if A < 18446744073709551616 then ((A : Int), true) else (0, false) := by
  by_cases h : hi = 0
  · have e : A = lo := by omega
    rw [e, if_neg (by omega), if_pos h2]
  · rw [if_pos (by omega), if_neg (by omega)]
theorem wide_ab (A hi lo : Nat) (hA : A = hi * 18446744073709551616 + lo) (h1 : hi < 18446744073709551616) (h2 : lo < 18446744073709551616) : Ev (fun k => tombolaref01_Wide.f k hi lo) (digs A) := by
  subst hA; exact wide_ev hi lo h1 h2
theorem sum_ab (A B ah al bh bl : Nat) (hA : A = ah * 18446744073709551616 + al) (hB : B = bh * 18446744073709551616 + bl) (h1 : ah < 18446744073709551616) (h2 : al < 18446744073709551616) (h3 : bh < 18446744073709551616) (h4 : bl < 18446744073709551616) :
    Ev (fun k => wide_Sum.f k ah al bh bl) (if A + B < 340282366920938463463374607431768211456 then ((((A + B) / 18446744073709551616 : Nat) : Int), (((A + B) % 18446744073709551616 : Nat) : Int), true) else (0, 0, false)) :=
  sum_nat ah al bh bl h1 h2 h3 h4 (A + B) (by rw [hA, hB])
theorem times_ab (A ah al n : Nat) (hA : A = ah * 18446744073709551616 + al) (h1 : ah < 18446744073709551616) (h2 : al < 18446744073709551616) (h5 : n < 18446744073709551616) :
    Ev (fun k => wide_Times.f k ah al n) (if A * n < 340282366920938463463374607431768211456 then (((A * n / 18446744073709551616 : Nat) : Int), ((A * n % 18446744073709551616 : Nat) : Int), true) else (0, 0, false)) := by
  subst hA; exact times_nat ah al n h1 h2 h5
theorem cmpw_ab (A B ah al bh bl : Nat) (hA : A = ah * 18446744073709551616 + al) (hB : B = bh * 18446744073709551616 + bl) (h2 : al < 18446744073709551616) (h4 : bl < 18446744073709551616) :
    Ev (fun k => wide_Cmp.f k ah al bh bl) (cmpN A B) := by
  subst hA hB; exact cmpw_ev ah al bh bl h2 h4
theorem ev_big (A B ah al bh bl n : Nat) (eA : A = ah * 18446744073709551616 + al) (eB : B = bh * 18446744073709551616 + bl) (h1 : ah < 18446744073709551616) (h2 : al < 18446744073709551616) (h3 : bh < 18446744073709551616) (h4 : bl < 18446744073709551616) (h5 : n < 18446744073709551616) :
    Ev (fun k => tombolalaw01_WideBig.f k ah al bh bl n) true := by
  have hA := two_words A ah al eA h1 h2
  have hB := two_words B bh bl eB h3 h4
  have hfit := fits_ab A ah al eA h2
  have hwa := wide_ab A ah al eA h1 h2
  have hwb := wide_ab B bh bl eB h3 h4
  have hs := sum_ab A B ah al bh bl eA eB h1 h2 h3 h4
  have hle := less_ev ah al bh bl h1 h2 h3 h4 A B eA eB
  have hti := times_ab A ah al n eA h1 h2 h5
  have hcw := cmpw_ab A B ah al bh bl eA eB h2 h4
  clear eA eB
  have lA : (digs A).length ≤ 8 := (digs_len_le A 8).2 (by simpa using hA)
  have lB : (digs B).length ≤ 8 := (digs_len_le B 8).2 (by simpa using hB)
  have ln : (digs n).length ≤ 8 := Nat.le_trans (u64_len h5) (by decide)
  have hc := cmp_ev A B (by omega) (by omega)
  have ha := add_ev A B (by omega) (by omega)
  have hm := mul_ev A n (by omega) (by omega)
  have b1 : Ev (fun k => tombolalaw01_big.f k (if A + B < 340282366920938463463374607431768211456 then ((((A + B) / 18446744073709551616 : Nat) : Int), (((A + B) % 18446744073709551616 : Nat) : Int), true) else (0, 0, false)).1 (if A + B < 340282366920938463463374607431768211456 then ((((A + B) / 18446744073709551616 : Nat) : Int), (((A + B) % 18446744073709551616 : Nat) : Int), true) else (0, 0, false)).2.1 (if A + B < 340282366920938463463374607431768211456 then ((((A + B) / 18446744073709551616 : Nat) : Int), (((A + B) % 18446744073709551616 : Nat) : Int), true) else (0, 0, false)).2.2 (digs (A + B))) true := by
    by_cases h : A + B < 340282366920938463463374607431768211456
    · rw [if_pos h]; exact big_yes _ h _ _ rfl rfl
    · rw [if_neg h]; exact big_no _ (Nat.le_of_not_lt h)
  have b2 : Ev (fun k => tombolalaw01_big.f k (if A * n < 340282366920938463463374607431768211456 then (((A * n / 18446744073709551616 : Nat) : Int), ((A * n % 18446744073709551616 : Nat) : Int), true) else (0, 0, false)).1 (if A * n < 340282366920938463463374607431768211456 then (((A * n / 18446744073709551616 : Nat) : Int), ((A * n % 18446744073709551616 : Nat) : Int), true) else (0, 0, false)).2.1 (if A * n < 340282366920938463463374607431768211456 then (((A * n / 18446744073709551616 : Nat) : Int), ((A * n % 18446744073709551616 : Nat) : Int), true) else (0, 0, false)).2.2 (digs (A * n))) true := by
    by_cases h : A * n < 340282366920938463463374607431768211456
    · rw [if_pos h]; exact big_yes _ h _ _ rfl rfl
    · rw [if_neg h]; exact big_no _ (Nat.le_of_not_lt h)
  have b3 : Ev (fun k => tombolalaw01_small.f k (if A < 18446744073709551616 then ((A : Int), true) else (0, false)).1 (if A < 18446744073709551616 then ((A : Int), true) else (0, false)).2 (digs A)) true := by
    by_cases h : A < 18446744073709551616
    · rw [if_pos h]; exact small_yes _ h _ rfl
    · rw [if_neg h]; exact small_no _ (Nat.le_of_not_lt h)
  have hend := big_end A B hA _ rfl lA
  unfold tombolalaw01_WideBig.f
  refine Ev.bind hwa (Ev.bind hwb (Ev.bind hs (Ev.bind hle (Ev.bind hti ?_))))
  rw [fits_eq, hfit]
  simp only [Option.bind_some]
  refine Ev.bind hc (Ev.bind ha (Ev.bind b1 (Ev.congr (fun k => if_pos rfl) ?_)))
  refine Ev.bind (of_ev n h5) (Ev.bind hm (Ev.bind b2 (Ev.congr (fun k => if_pos rfl) ?_)))
  refine Ev.bind b3 (Ev.congr (fun k => if_pos rfl) (Ev.bind hcw ?_))
  exact hend
/-- The walk. -/
theorem mainWideBig (a0 a1 b0 b1 n : Int) (w : World) (w0 : (Lit.int .u64 a0).wf = true ∧ (Lit.int .u64 a1).wf = true) (w1 : (Lit.int .u64 b0).wf = true ∧ (Lit.int .u64 b1).wf = true) (w2 : (Lit.int .u64 n).wf = true) :
    Calls Try.prog 7 #[.agg #[.int .u64 a0, .int .u64 a1], .agg #[.int .u64 b0, .int .u64 b1], .int .u64 n] w fun e w' => e = .returned (.bool true) ∧ Below w.heap.size w w' := by
  obtain ⟨ah, rfl, h1⟩ := wfB w0.1
  obtain ⟨al, rfl, h2⟩ := wfB w0.2
  obtain ⟨bh, rfl, h3⟩ := wfB w1.1
  obtain ⟨bl, rfl, h4⟩ := wfB w1.2
  obtain ⟨n, rfl, h5⟩ := wfB w2
  obtain ⟨k, h⟩ := Ev.rounds (ev_big _ _ ah al bh bl n rfl rfl h1 h2 h3 h4 h5)
  exact (tombolalaw01_WideBig.calls k ah al bh bl n true ⟨rfl⟩ w h).mono fun e w' ⟨he, hb⟩ => ⟨he, hb⟩
end Go.Proofs.Ytogdooclldoomaa.Pure
