/- Any wide number is the quotient times the divisor, and the rest, which is below the divisor; it is not divided by 0. Conditions: none beyond the row's own. -/
import Derived.Test.YtogdooclldoomaaWideB
import Derived.Test.YtogdooclldoomaaNatC
import Derived.Test.YtogdooclldoomaaFLaw01WideDivides
namespace Go.Proofs.Ytogdooclldoomaa.Pure
open Go Go.RowKit Go.Proofs.Ytogdooclldoomaa.F Go.Proofs.YtogdooclldoomaaW.PrintWords Go.Proofs.YtogdooclldoomaaW.PrintLast Go.Proofs.Ytogdooclldoomaa.Digs Go.Proofs.Ytogdooclldoomaa.N

theorem wfD {x : Int} (h : (Lit.int .u64 x).wf = true) : ∃ n : Nat, x = n ∧ n < 18446744073709551616 := by
  have h2 : 0 ≤ x ∧ x ≤ 18446744073709551615 := by simpa [Lit.wf, IntKind.min, IntKind.max, IntKind.signed, IntKind.bits] using h
  exact ⟨x.toNat, by omega, by omega⟩
theorem cmpN_self (a : Nat) : cmpN a a = 0 := by
  unfold cmpN
  rw [if_neg (by omega), if_neg (by omega)]
theorem words_back (n : Nat) : n / 18446744073709551616 * 18446744073709551616 + n % 18446744073709551616 = n := by omega
theorem words_hi (a b : Nat) (h : b < 18446744073709551616) : (a * 18446744073709551616 + b) / 18446744073709551616 = a := by omega
theorem words_lo (a b : Nat) (h : b < 18446744073709551616) : (a * 18446744073709551616 + b) % 18446744073709551616 = b := by omega
theorem ev_zero (hi lo : Nat) : Ev (fun k => tombolalaw01_WideDivides.f k hi lo 0) true := by
  unfold tombolalaw01_WideDivides.f
  have h : ∀ k, wide_Div.f k hi lo 0 = some (0, 0, 0, false) := fun k => by unfold wide_Div.f; rw [if_pos rfl]
  refine Ev.congr (fun k => ?_) (f := fun k => (tombolalaw01_alive.f k).bind fun t345 => some t345) (Ev.bindN alive01_ev rfl)
  rw [h k]
  simp
theorem ev_some (hi lo d : Nat) (h1 : hi < 18446744073709551616) (h2 : lo < 18446744073709551616) (hd : 0 < d) (h3 : d < 18446744073709551616) : Ev (fun k => tombolalaw01_WideDivides.f k hi lo d) true := by
  unfold tombolalaw01_WideDivides.f
  have hdiv := divw_ev hi lo d h1 h2 hd h3
  have hN : hi * 18446744073709551616 + lo < 340282366920938463463374607431768211456 := by omega
  have e1 := words_hi hi lo h2
  have e2 := words_lo hi lo h2
  generalize hNN : hi * 18446744073709551616 + lo = N at *
  have hq : N / d ≤ N := Nat.div_le_self _ _
  have hr : N % d < d := Nat.mod_lt _ hd
  have hdm : N / d * d + N % d = N := by rw [Nat.mul_comm]; exact Nat.div_add_mod N d
  generalize N / d = q at *
  generalize N % d = r at *
  have hqd : q * d ≤ N := by omega
  have ht := times_nat (q / 18446744073709551616) (q % 18446744073709551616) d (by omega) (by omega) h3
  rw [words_back] at ht
  rw [if_pos (by omega)] at ht
  have hs := sum_nat (q * d / 18446744073709551616) (q * d % 18446744073709551616) 0 r (by omega) (by omega) (by decide) (by omega) N (by rw [words_back, Nat.zero_mul, Nat.zero_add]; exact hdm.symm)
  rw [if_pos hN, e1, e2] at hs
  have hw1 := wide_ev (q / 18446744073709551616) (q % 18446744073709551616) (by omega) (by omega)
  rw [words_back] at hw1
  have hw2 := wide_ev hi lo h1 h2
  rw [hNN] at hw2
  have ho1 := of_ev d h3
  have ho2 := of_ev r (by omega)
  have l1 : (digs q).length ≤ 8 := (digs_len_le q 8).2 (Nat.lt_of_le_of_lt hq (by simpa using hN))
  have l2 : (digs d).length ≤ 8 := Nat.le_trans (u64_len h3) (by decide)
  have l3 : (digs r).length ≤ 8 := Nat.le_trans (u64_len (by omega)) (by decide)
  have l4 : (digs (q * d)).length ≤ 8 := (digs_len_le _ 8).2 (Nat.lt_of_le_of_lt hqd (by simpa using hN))
  have l5 : (digs N).length ≤ 8 := (digs_len_le _ 8).2 (by simpa using hN)
  have hm := mul_ev q d (by omega) (by omega)
  have ha := add_ev (q * d) r (by omega) (by omega)
  rw [hdm] at ha
  have hc := cmp_ev N N (by omega) (by omega)
  rw [cmpN_self] at hc
  refine Ev.bind hdiv ?_
  refine Ev.congr (fun k => if_neg (by omega)) ?_
  refine Ev.bind ht (Ev.bind hs ?_)
  have hlt : (r : Int) < d := by omega
  refine Ev.congr (f := fun k => (tombolaref01_Wide.f k ((q / 18446744073709551616 : Nat) : Int) ((q % 18446744073709551616 : Nat) : Int)).bind fun t354 => ((tombolaref01_Of.f k d).bind fun t357 => ((tombolaref01_Mul.f k t354 t357).bind fun t360 => ((tombolaref01_Of.f k r).bind fun t363 => ((tombolaref01_Add.f k t360 t363).bind fun t366 => ((tombolaref01_Wide.f k hi lo).bind fun t369 => ((tombolaref01_Cmp.f k t366 t369).bind fun t372 => (if t372 = 0 then ((tombolalaw01_alive.f k).bind fun t373 => (some t373)) else (some false)))))))))
    (fun k => by rw [if_pos rfl, if_pos rfl, if_pos rfl, if_pos (by simp), if_pos hlt]) ?_
  refine Ev.bind hw1 (Ev.bind ho1 (Ev.bind hm (Ev.bind ho2 (Ev.bind ha (Ev.bind hw2 (Ev.bind hc ?_))))))
  exact Ev.congr (fun k => if_pos rfl) (Ev.bindN alive01_ev rfl)
/-- The walk. -/
theorem mainWideDivides (a0 a1 a2 : Int) (w : World) (w0 : (Lit.int .u64 a0).wf = true ∧ (Lit.int .u64 a1).wf = true) (w2 : (Lit.int .u64 a2).wf = true) :
    Calls Try.prog 6 #[.agg #[.int .u64 a0, .int .u64 a1], .int .u64 a2] w fun e w' => e = .returned (.bool true) ∧ Below w.heap.size w w' := by
  obtain ⟨hi, rfl, h1⟩ := wfD w0.1
  obtain ⟨lo, rfl, h2⟩ := wfD w0.2
  obtain ⟨d, rfl, h3⟩ := wfD w2
  have hev : Ev (fun k => tombolalaw01_WideDivides.f k hi lo d) true := by
    rcases Nat.eq_zero_or_pos d with rfl | hd
    · exact ev_zero hi lo
    · exact ev_some hi lo d h1 h2 hd h3
  obtain ⟨k, h⟩ := Ev.rounds hev
  exact (tombolalaw01_WideDivides.calls k hi lo d true ⟨rfl⟩ w h).mono fun e w' ⟨he, hb⟩ => ⟨he, hb⟩
end Go.Proofs.Ytogdooclldoomaa.Pure
