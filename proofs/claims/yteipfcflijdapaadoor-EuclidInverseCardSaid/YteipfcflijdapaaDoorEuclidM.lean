-- Cut for this claim by a program (wip/prune.py) out of the texts that its bench laid or wrote
import Derived.Test.YteipfcflijdapaaDoorNat2
import Derived.Test.YteipfcflijdapaaDoorCmp
import Derived.Test.YteipfcflijdapaaDoorFRef01C
import Derived.Test.YteipfcflijdapaaDoorCtz
import Derived.Test.YteipfcflijdapaaDoorFEuclidA
import Derived.Test.YteipfcflijdapaaDoorFRef02A
section
namespace Go.Proofs.YteipfcflijdapaaDoor.N
open Go Go.RowKit Go.Proofs.YteipfcflijdapaaDoor.F Go.Proofs.YteipfcflijdapaaDoorW.PrintWords Go.Proofs.YteipfcflijdapaaDoorW.PrintLast Go.Proofs.YteipfcflijdapaaDoorW.PrintMore Go.Proofs.YteipfcflijdapaaDoor.Digs
set_option linter.unusedSimpArgs false
set_option linter.unusedVariables false
theorem mid_arith (lo hi : Nat) (h : lo < hi) (hh : hi ≤ 65535) : wrap64 (Int.tdiv (wrap64 ((wrap64 ((lo : Int) + (hi : Int))) + 1)) 2) = (((lo + hi + 1) / 2 : Nat) : Int) := by
  rw [i64w (show -9223372036854775808 ≤ (lo : Int) + hi by omega) (by omega), i64w (show -9223372036854775808 ≤ (lo : Int) + hi + 1 by omega) (by omega), Int.tdiv_eq_ediv_of_nonneg (by omega), i64w (by omega) (by omega)]
  omega
theorem rdiv_l1 (q A : List Int) (x8 : Int) (b R : Nat) (hb : 0 < b) (hlb : (digs b).length < 1000000) (hlR : (digs R).length < 1000000) (hRb : R / b ≤ 65535) (h0 : 0 ≤ x8) (h1 : x8 < (q.length : Int)) (res : List Int × List Int)
    (hk : Ev (fun k => tombolaref01_Div.l0 k (q.set x8.toNat ((R / b : Nat) : Int)) (wrap64 (x8 - 1)) A (digs b) (digs (R % b))) res) :
    ∀ (m lo hi : Nat), hi - lo = m → lo ≤ R / b → R / b ≤ hi → hi ≤ 65535 → Ev (fun k => tombolaref01_Div.l1 k q x8 (lo : Int) (hi : Int) A (digs b) (digs R)) res := by
  intro m
  induction m using Nat.strongRecOn with
  | _ m ih =>
    intro lo hi hm hlo hhi hh
    have hmul (x : Nat) (hx : x ≤ 65535) : (digs x).length < 1000000000 := by
      have := (digs_len_le x 1).2 (by omega)
      omega
    by_cases h : lo < hi
    · refine Ev.step (f := fun k => (tombolaref01_Of.f k (((lo + hi + 1) / 2 : Nat) : Int)).bind fun t132 => ((tombolaref01_Mul.f k (digs b) t132).bind fun t135 => ((tombolaref01_Cmp.f k t135 (digs R)).bind fun t138 => (if t138 ≤ 0 then (tombolaref01_Div.l1 k q x8 (((lo + hi + 1) / 2 : Nat) : Int) (hi : Int) A (digs b) (digs R)) else (tombolaref01_Div.l1 k q x8 (lo : Int) (((lo + hi + 1) / 2 - 1 : Nat) : Int) A (digs b) (digs R)))))) (fun k => ?_) ?_
      · have e := mid_arith lo hi h hh
        simp only [tombolaref01_Div.l1]
        rw [if_pos (by omega), e, u64w (by omega) (by omega)]
        have e2 : wrap64 ((((lo + hi + 1) / 2 : Nat) : Int) - 1) = (((lo + hi + 1) / 2 - 1 : Nat) : Int) := by rw [i64w (by omega) (by omega)]; omega
        rw [e2]
      · refine Ev.bind (of_ev _ (by omega)) ?_
        refine Ev.bind (mul_ev b _ (by omega) (hmul _ (by omega))) ?_
        have hlen : (digs (b * ((lo + hi + 1) / 2))).length < 1000000000 := by
          have h1 := (digs_len_le b (digs b).length).1 (Nat.le_refl _)
          have h2 : b * ((lo + hi + 1) / 2) < 65536 ^ ((digs b).length + 1) := by
            rw [Nat.pow_succ]
            exact Nat.mul_lt_mul'' h1 (by omega)
          have := (digs_len_le _ _).2 h2
          omega
        refine Ev.bind (cmp_ev _ _ hlen (by omega)) ?_
        by_cases hc : b * ((lo + hi + 1) / 2) ≤ R
        · have hle : cmpN (b * ((lo + hi + 1) / 2)) R ≤ 0 := by unfold cmpN; split <;> (try split) <;> omega
          refine Ev.congr (f := fun k => tombolaref01_Div.l1 k q x8 (((lo + hi + 1) / 2 : Nat) : Int) (hi : Int) A (digs b) (digs R)) (fun k => by rw [if_pos hle]) ?_
          have hq : (lo + hi + 1) / 2 ≤ R / b := (Nat.le_div_iff_mul_le hb).2 (by rw [Nat.mul_comm]; exact hc)
          exact ih (hi - (lo + hi + 1) / 2) (by omega) _ _ rfl hq hhi hh
        · have hle : ¬ cmpN (b * ((lo + hi + 1) / 2)) R ≤ 0 := by unfold cmpN; rw [if_neg (by omega), if_pos (by omega)]; omega
          refine Ev.congr (f := fun k => tombolaref01_Div.l1 k q x8 (lo : Int) (((lo + hi + 1) / 2 - 1 : Nat) : Int) A (digs b) (digs R)) (fun k => by rw [if_neg hle]) ?_
          have hq : R / b < (lo + hi + 1) / 2 := (Nat.div_lt_iff_lt_mul hb).2 (by rw [Nat.mul_comm]; omega)
          exact ih ((lo + hi + 1) / 2 - 1 - lo) (by omega) _ _ rfl hlo (by omega) (by omega)
    · obtain rfl : lo = R / b := by omega
      have hd := Nat.div_add_mod R b
      refine Ev.step (f := fun k => (tombolaref01_Of.f k ((R / b : Nat) : Int)).bind fun t123 => ((tombolaref01_Mul.f k (digs b) t123).bind fun t126 => ((tombolaref01_Sub.f k (digs R) t126).bind fun t129 => (tombolaref01_Div.l0 k (q.set x8.toNat ((R / b : Nat) : Int)) (wrap64 (x8 - 1)) A (digs b) t129)))) (fun k => ?_) ?_
      · simp only [tombolaref01_Div.l1]
        rw [if_neg (by omega), if_pos h0, if_pos h1, u64w (by omega) (by omega)]
      · refine Ev.bind (of_ev _ (by omega)) ?_
        refine Ev.bind (mul_ev b _ (by omega) (hmul _ hRb)) ?_
        refine Ev.bind (sub_ev R (b * (R / b)) (by omega) (by omega)) ?_
        rw [show R - b * (R / b) = R % b by omega]
        exact hk
theorem step_div0 (T b x q r : Nat) (h : b * q + r = T) : T * 65536 + x = b * (q * 65536) + (r * 65536 + x) := by
  subst h
  rw [Nat.add_mul, Nat.mul_assoc, Nat.add_assoc]
theorem step_div (T b x : Nat) (hb : 0 < b) (hx : x < 65536) : (T * 65536 + x) / b = T / b * 65536 + (T % b * 65536 + x) / b ∧ (T * 65536 + x) % b = (T % b * 65536 + x) % b ∧ (T % b * 65536 + x) / b ≤ 65535 := by
  have e := step_div0 T b x (T / b) (T % b) (Nat.div_add_mod T b)
  refine ⟨?_, ?_, ?_⟩
  · rw [e, Nat.mul_add_div hb]
  · rw [e, Nat.mul_add_mod]
  · have hr := Nat.mod_lt T hb
    have h2 : (T % b + 1) * 65536 ≤ b * 65536 := Nat.mul_le_mul_right _ hr
    rw [Nat.add_mul, Nat.mul_comm b 65536] at h2
    have h3 : (T % b * 65536 + x) / b < 65536 := (Nat.div_lt_iff_lt_mul hb).2 (by omega)
    omega
theorem val_arith (u v p : Nat) : (((u * (p * 65536) : Nat) : Int) + (65536 : Int) ^ 0 * 0 + ((p : Nat) : Int) * ((v : Int) - 0)) = (((u * 65536 + v) * p : Nat) : Int) := by
  rw [Int.natCast_mul, Int.natCast_mul, Int.natCast_mul, Int.natCast_add, Int.natCast_mul, show ((65536 : Nat) : Int) = 65536 from rfl]
  rw [Int.sub_zero, Int.mul_zero, Int.add_zero, Int.add_mul, Int.mul_comm (p : Int) (v : Int), Int.mul_comm (p : Int) 65536, ← Int.mul_assoc]
theorem rdiv_l0 (a b : Nat) (hb : 0 < b) (hla : (digs a).length < 100000) (hlb : (digs b).length < 100000) : ∀ (i : Nat) (q : List Int), i ≤ (digs a).length → q.length = (digs a).length → Dg q → (∀ j, j < i → dig q j = 0) →
    val q = ((a / 65536 ^ i / b * 65536 ^ i : Nat) : Int) → Ev (fun k => tombolaref01_Div.l0 k q ((i : Int) - 1) (digs a) (digs b) (digs (a / 65536 ^ i % b))) (digs (a / b), digs (a % b)) := by
  intro i
  induction i with
  | zero =>
    intro q _ hql hg _ hv
    refine Ev.step (f := fun k => (tombolaref01_Cut.f k q).bind fun t109 => (some (t109, digs (a % b)))) (fun k => ?_) ?_
    · simp only [tombolaref01_Div.l0]
      rw [if_neg (by omega)]
      simp
    · have hc := cut_ev hg (by omega)
      have hv' : (val q).toNat = a / b := by rw [hv, Int.toNat_natCast, Nat.pow_zero, Nat.div_one, Nat.mul_one]
      rw [hv'] at hc
      exact Ev.bindN hc rfl
  | succ i ih =>
    intro q hi hql hg hz hv
    have e1 : (((i + 1 : Nat) : Int) - 1) = (i : Int) := by omega
    rw [e1]
    obtain ⟨T, hT⟩ : ∃ T, a / 65536 ^ (i + 1) = T := ⟨_, rfl⟩
    obtain ⟨x, hx⟩ : ∃ x, a / 65536 ^ i % 65536 = x := ⟨_, rfl⟩
    have hx1 : x < 65536 := by rw [← hx]; exact Nat.mod_lt _ (by decide)
    have hTx : a / 65536 ^ i = T * 65536 + x := by
      rw [← hT, ← hx, Nat.pow_succ, ← Nat.div_div_eq_div_mul]
      omega
    have hrd : rd (digs a) (i : Int) = (x : Int) := by rw [rd_dig, dig_digs, hx]
    rw [hT]
    have hs := step_div T b x hb hx1
    have hD0 : 0 ≤ (((T % b * 65536 + x) / b : Nat) : Int) := Int.natCast_nonneg _
    have hD1 : (((T % b * 65536 + x) / b : Nat) : Int) < 65536 := by
      have h := hs.2.2
      generalize (T % b * 65536 + x) / b = D at h ⊢
      omega
    have hrl : (digs (T % b)).length ≤ (digs b).length := (digs_len_le _ _).2 (Nat.lt_trans (Nat.mod_lt T hb) ((digs_len_le b _).1 (Nat.le_refl _)))
    have hgd : Dg ([(x : Int)] ++ digs (T % b)) := good_append (fun d hd => by simp at hd; omega) (good_digs _)
    have hvd : (val ([(x : Int)] ++ digs (T % b))).toNat = T % b * 65536 + x := by
      rw [val_append, val_digs]
      simp [val]
      omega
    have hcut := cut_ev hgd (by rw [List.length_append]; simp; omega)
    rw [hvd] at hcut
    refine Ev.step (f := fun k => (tombolaref01_Cut.f k ([(x : Int)] ++ digs (T % b))).bind fun t119 => (tombolaref01_Div.l1 k q (i : Int) 0 65535 (digs a) (digs b) t119)) (fun k => ?_) ?_
    · simp only [tombolaref01_Div.l0, Option.bind_some]
      rw [if_pos (by omega), if_pos (by omega), if_pos (by omega), hrd, if_pos (by simp; omega)]
    · refine Ev.bind hcut ?_
      have hRl : (digs (T % b * 65536 + x)).length < 1000000 := by
        have h1 : T % b * 65536 + x < 65536 ^ ((digs b).length + 1) := by
          have h2 : T % b < 65536 ^ (digs b).length := Nat.lt_trans (Nat.mod_lt T hb) ((digs_len_le b _).1 (Nat.le_refl _))
          rw [Nat.pow_succ]
          have h3 : (T % b + 1) * 65536 ≤ 65536 ^ (digs b).length * 65536 := Nat.mul_le_mul_right _ h2
          omega
        have := (digs_len_le _ _).2 h1
        omega
      refine rdiv_l1 q (digs a) (i : Int) b (T % b * 65536 + x) hb (by omega) hRl hs.2.2 (by omega) (by omega) _ ?_ 65535 0 65535 rfl (Nat.zero_le _) hs.2.2 (Nat.le_refl _)
      rw [i64w (by omega) (by omega), Int.toNat_natCast]
      have hk := ih (q.set i (((T % b * 65536 + x) / b : Nat) : Int)) (by omega) (by rw [List.length_set]; exact hql) (good_set hg i hD0 hD1) ?_ ?_
      · rw [hTx, hs.2.1] at hk
        exact hk
      · intro j hj
        unfold dig
        rw [List.getD_eq_getElem?_getD, List.getElem?_set_ne (by omega), ← List.getD_eq_getElem?_getD]
        exact hz j (by omega)
      · rw [val_set (by omega), hv, hz i (by omega), hTx, hs.1, hT]
        have h9 := val_arith (T / b) ((T % b * 65536 + x) / b) (65536 ^ i)
        rw [Int.mul_zero, Int.add_zero] at h9
        rw [Nat.pow_succ, ← h9, Int.natCast_pow]
        rfl
theorem div_ev (a b : Nat) (hb : 0 < b) (hla : (digs a).length < 100000) (hlb : (digs b).length < 100000) : Ev (fun k => tombolaref01_Div.f k (digs a) (digs b)) (digs (a / b), digs (a % b)) := by
  have h := rdiv_l0 a b hb hla hlb (digs a).length (List.replicate (digs a).length 0) (Nat.le_refl _) (by simp) (good_replicate _) (fun j hj => by unfold dig; simp [hj]) ?_
  · have hz : a / 65536 ^ (digs a).length = 0 := Nat.div_eq_of_lt ((digs_len_le a _).1 (Nat.le_refl _))
    rw [hz, Nat.zero_mod, digs_zero] at h
    refine Ev.congr (fun k => ?_) h
    unfold tombolaref01_Div.f
    rw [if_pos (by omega), if_pos (by simp; omega), Int.toNat_natCast, i64w (by omega) (by omega)]
  · have hz : a / 65536 ^ (digs a).length = 0 := Nat.div_eq_of_lt ((digs_len_le a _).1 (Nat.le_refl _))
    rw [hz, val_replicate]
    simp
end Go.Proofs.YteipfcflijdapaaDoor.N
end
section
namespace Go.Proofs.YteipfcflijdapaaDoor.N
open Go Go.RowKit Go.Proofs.YteipfcflijdapaaDoor.F Go.Proofs.YteipfcflijdapaaDoorW.PrintWords Go.Proofs.YteipfcflijdapaaDoorW.PrintLast Go.Proofs.YteipfcflijdapaaDoorW.PrintMore Go.Proofs.YteipfcflijdapaaDoor.Digs
set_option linter.unusedSimpArgs false
set_option linter.unusedVariables false
theorem full_n (a b : Nat) (ha : a < 18446744073709551616) (hb : b < 18446744073709551616) : wide_Full.f a b = some (((a * b / 18446744073709551616 : Nat) : Int), ((a * b % 18446744073709551616 : Nat) : Int)) := by
  rw [full_eq ⟨by omega, by omega⟩ ⟨by omega, by omega⟩, ← Int.natCast_mul]
  congr 1
theorem prod_hi (a b : Nat) (ha : a < 18446744073709551616) (hb : b < 18446744073709551616) : a * b / 18446744073709551616 < 18446744073709551616 := by
  rw [Nat.div_lt_iff_lt_mul (by omega)]
  exact Nat.lt_of_le_of_lt (Nat.mul_le_mul (show a ≤ 18446744073709551615 by omega) (show b ≤ 18446744073709551615 by omega)) (by decide)
theorem mulMod_ev (a b m : Nat) (ha : a < 18446744073709551616) (hb : b < 18446744073709551616) (hm : 0 < m) (hm1 : m < 18446744073709551616) :
    Ev (fun k => euclid_MulMod.f k a b m) (((a * b % m : Nat) : Int), true) := by
  unfold euclid_MulMod.f
  rw [full_n a b ha hb]
  simp only [Option.bind_some]
  have h := divw_ev (a * b / 18446744073709551616) (a * b % 18446744073709551616) m (prod_hi a b ha hb) (Nat.mod_lt _ (by omega)) hm hm1
  have e : a * b / 18446744073709551616 * 18446744073709551616 + a * b % 18446744073709551616 = a * b := by omega
  rw [e] at h
  exact Ev.bind h (Ev.now _)
theorem rmulMod_ev (a b m : Nat) (ha : a < 18446744073709551616) (hb : b < 18446744073709551616) (hm : 0 < m) (hm1 : m < 18446744073709551616) :
    Ev (fun k => tombolaref02_MulMod.f k a b m) ((a * b % m : Nat) : Int) := by
  unfold tombolaref02_MulMod.f
  have la := u64_len ha
  have lb := u64_len hb
  have lm := u64_len hm1
  have hlt : a * b % m < m := Nat.mod_lt _ hm
  have hp : (digs (a * b)).length ≤ 8 := (digs_len_le _ 8).2 (by
    have h1 := Nat.mul_le_mul (show a ≤ 18446744073709551615 by omega) (show b ≤ 18446744073709551615 by omega)
    have h2 : 18446744073709551615 * 18446744073709551615 < 65536 ^ 8 := by decide
    omega)
  refine Ev.bind (of_ev a ha) (Ev.bind (of_ev b hb) (Ev.bind (mul_ev a b (by omega) (by omega)) (Ev.bind (of_ev m hm1) (Ev.bind (div_ev (a * b) m hm (by omega) (by omega)) (Ev.bind (word_ev _ (by omega)) (Ev.now _))))))
end Go.Proofs.YteipfcflijdapaaDoor.N
end
