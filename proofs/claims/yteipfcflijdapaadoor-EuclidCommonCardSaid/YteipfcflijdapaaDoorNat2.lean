-- Cut for this claim by a program (wip/prune.py) out of the texts that its bench laid or wrote
import Derived.Test.YteipfcflijdapaaDoorNat1
import Derived.Test.YteipfcflijdapaaDoorFRef01A
namespace Go.Proofs.YteipfcflijdapaaDoor.N
open Go Go.RowKit Go.Proofs.YteipfcflijdapaaDoor.F Go.Proofs.YteipfcflijdapaaDoorW.PrintWords Go.Proofs.YteipfcflijdapaaDoorW.PrintLast Go.Proofs.YteipfcflijdapaaDoorW.PrintMore Go.Proofs.YteipfcflijdapaaDoor.Digs
set_option linter.unusedSimpArgs false
set_option linter.unusedVariables false
theorem mod_step (a i : Nat) : ((a % 65536 ^ (i + 1) : Nat) : Int) = ((a % 65536 ^ i : Nat) : Int) + 65536 ^ i * ((a / 65536 ^ i % 65536 : Nat) : Int) := by
  have h : a % 65536 ^ (i + 1) = a % 65536 ^ i + 65536 ^ i * (a / 65536 ^ i % 65536) := by rw [Nat.pow_succ, Nat.mod_mul]
  rw [h, Int.natCast_add, Int.natCast_mul, Int.natCast_pow]; rfl
theorem mul_step (v P Q o A x B y dk t : Int) (h : v + o * (P * Q) = A * t + x * (B * P)) :
    v + P * Q * ((dk + x * y + o) % 65536 - dk) + (dk + x * y + o) / 65536 * (P * (Q * 65536)) = A * t + x * ((B + Q * y) * P) := by
  have e : (dk + x * y + o) % 65536 = dk + x * y + o - 65536 * ((dk + x * y + o) / 65536) := by omega
  rw [e]
  generalize (dk + x * y + o) / 65536 = q
  grind
structure MulFacts (x y o : Nat) (dk : Int) : Prop where
  p : 0 ≤ dk + (x : Int) * y + o
  q : ((((dk + (x : Int) * y + o) / 65536).toNat : Nat) : Int) = (dk + (x : Int) * y + o) / 65536
  r0 : 0 ≤ (dk + (x : Int) * y + o) % 65536
  r1 : (dk + (x : Int) * y + o) % 65536 < 65536
  q1 : ((dk + (x : Int) * y + o) / 65536).toNat < 65536
  w2 : wrap64 ((x : Int) * y) = (x : Int) * y
  w3 : wrap64 (dk + (x : Int) * y) = dk + (x : Int) * y
  w4 : wrap64 (dk + (x : Int) * y + o) = dk + (x : Int) * y + o
  w6 : wrap64 (Int.tdiv (dk + (x : Int) * y + o) 65536) = ((((dk + (x : Int) * y + o) / 65536).toNat : Nat) : Int)
  z : y = 0 → ((dk + (x : Int) * y + o) / 65536).toNat = 0 ∨ 65536 ≤ dk + o
theorem mulFacts (x y o : Nat) (dk : Int) (hx : x < 65536) (hy : y < 65536) (ho : o < 65536) (hd : 0 ≤ dk ∧ dk < 65536) : MulFacts x y o dk := by
  have hxy : (x : Int) * y ≤ 65535 * 65535 := by
    have := Nat.mul_le_mul (show x ≤ 65535 by omega) (show y ≤ 65535 by omega)
    have h2 := Int.ofNat_le.2 this
    simpa using h2
  have hxy0 : 0 ≤ (x : Int) * y := Int.mul_nonneg (Int.natCast_nonneg _) (Int.natCast_nonneg _)
  have hz : y = 0 → (x : Int) * y = 0 := fun h => by subst h; simp
  refine ⟨?_, ?_, ?_, ?_, ?_, ?_, ?_, ?_, ?_, ?_⟩
  all_goals (generalize (x : Int) * y = t at *)
  · omega
  · omega
  · omega
  · omega
  · omega
  · exact i64w (by omega) (by omega)
  · exact i64w (by omega) (by omega)
  · exact i64w (by omega) (by omega)
  · rw [Int.tdiv_eq_ediv_of_nonneg (by omega), i64w (by omega) (by omega)]; omega
  · intro h; have := hz h; omega
theorem mul_l1 (a b i la lb : Nat) (hla : la < 1000000000) (hlb : lb < 1000000000) (ha : (digs a).length = la) (hb : (digs b).length = lb) (hi : i < la)
    (h0 : ∀ d, Dg d → d.length = la + lb + 1 → val d = ((a % 65536 ^ (i + 1) : Nat) : Int) * b → Ev (fun k => tombolaref01_Mul.l0 k d (i + 1 : Nat) (digs a) (digs b)) (digs (a * b)))
    (m : Nat) : ∀ (d : List Int) (o kk : Nat), lb + 1 - kk = m → kk ≤ lb + 1 → (kk = lb + 1 → o = 0) → Dg d → d.length = la + lb + 1 → o < 65536 →
    val d + o * (65536 ^ i * 65536 ^ kk) = ((a % 65536 ^ i : Nat) : Int) * b + ((a / 65536 ^ i % 65536 : Nat) : Int) * (((b % 65536 ^ kk : Nat) : Int) * 65536 ^ i) →
    Ev (fun k => tombolaref01_Mul.l1 k d i o kk (digs a) (digs b)) (digs (a * b)) := by
  have hblt : b < 65536 ^ lb := (digs_len_le b lb).1 (by omega)
  have hda := dig_digs a i
  have hms := mod_step a i
  have hx1 : a / 65536 ^ i % 65536 < 65536 := Nat.mod_lt _ (by omega)
  have halt : a % 65536 ^ (i + 1) < 65536 ^ (i + 1) := Nat.mod_lt _ (Nat.pow_pos (by omega))
  generalize a / 65536 ^ i % 65536 = x at *
  have fin : ∀ (d : List Int) (kk : Nat), lb ≤ kk → Dg d → d.length = la + lb + 1 → val d = ((a % 65536 ^ i : Nat) : Int) * b + (x : Int) * (((b % 65536 ^ kk : Nat) : Int) * 65536 ^ i) →
      val d = ((a % 65536 ^ (i + 1) : Nat) : Int) * b := by
    intro d kk hk hg hl hv
    rw [Nat.mod_eq_of_lt (Nat.lt_of_lt_of_le hblt (Nat.pow_le_pow_right (by omega) hk))] at hv
    rw [hv, hms]
    generalize (65536 : Int) ^ i = P
    grind
  have cla : ((digs b).length : Int) = lb := by rw [hb]
  have clb : ((digs a).length : Int) = la := by rw [ha]
  have w1 : Aside0 (wrap64 ((i : Int) + 1) = ((i + 1 : Nat) : Int)) := ⟨by clear halt hms hda hblt h0 fin; rw [i64w (by omega) (by omega)]; omega⟩
  have c4 : (i : Int) < ((digs a).length : Int) := by rw [clb]; exact Int.ofNat_lt.2 hi
  have last : ∀ (d : List Int) (o : Nat), Dg d → val d + o * (65536 ^ i * 65536 ^ (lb + 1)) = ((a % 65536 ^ i : Nat) : Int) * b + (x : Int) * (((b % 65536 ^ (lb + 1) : Nat) : Int) * 65536 ^ i) → o = 0 := by
    intro d o hg hv
    rw [Nat.mod_eq_of_lt (Nat.lt_of_lt_of_le hblt (Nat.pow_le_pow_right (by omega) (Nat.le_succ _)))] at hv
    have h1 := val_nonneg hg
    have h2 : ((a % 65536 ^ i : Nat) : Int) * b + (x : Int) * ((b : Int) * 65536 ^ i) = ((a % 65536 ^ (i + 1) * b : Nat) : Int) := by
      rw [Int.natCast_mul, hms]
      generalize (65536 : Int) ^ i = P
      grind
    rw [h2] at hv
    have h3 : a % 65536 ^ (i + 1) * b ≤ 65536 ^ (i + 1) * b := Nat.mul_le_mul_right _ (Nat.le_of_lt halt)
    have h4 : 65536 ^ (i + 1) * b < 65536 ^ (i + 1) * 65536 ^ lb := Nat.mul_lt_mul_of_pos_left hblt (Nat.pow_pos (by omega))
    have h5 : 65536 ^ (i + 1) * 65536 ^ lb = 65536 ^ i * 65536 ^ (lb + 1) := by rw [Nat.pow_succ, Nat.pow_succ, Nat.mul_assoc, Nat.mul_comm 65536]
    have h6 : ((65536 ^ i * 65536 ^ (lb + 1) : Nat) : Int) = 65536 ^ i * 65536 ^ (lb + 1) := by rw [Int.natCast_mul, Int.natCast_pow, Int.natCast_pow]; rfl
    rcases Nat.eq_zero_or_pos o with h | h
    · exact h
    · exfalso
      have h7 : ((a % 65536 ^ (i + 1) * b : Nat) : Int) < ((65536 ^ i * 65536 ^ (lb + 1) : Nat) : Int) := Int.ofNat_lt.2 (by rw [← h5]; exact Nat.lt_of_le_of_lt h3 h4)
      rw [h6] at h7
      have h8 : (1 : Int) * (65536 ^ i * 65536 ^ (lb + 1)) ≤ o * (65536 ^ i * 65536 ^ (lb + 1)) := Int.mul_le_mul_of_nonneg_right (by omega) (Int.mul_nonneg (Int.le_of_lt (pow_pos' _)) (Int.le_of_lt (pow_pos' _)))
      rw [Int.one_mul] at h8
      generalize (65536 : Int) ^ i * 65536 ^ (lb + 1) = Z at *
      generalize (o : Int) * Z = Y at *
      clear h2 h3 h4 h5 h6 halt hms hblt
      omega
  induction m with
  | zero =>
    intro d o kk hm hk ho hg hl ho2 hv
    obtain rfl : kk = lb + 1 := by clear hv hms hblt hda halt h0 fin last; omega
    obtain rfl := ho rfl
    have hge : lb ≤ lb + 1 := Nat.le_succ _
    have := h0 d hg hl (fin d (lb + 1) hge hg hl (by rw [Int.natCast_zero, Int.zero_mul, Int.add_zero] at hv; exact hv))
    refine Ev.step (fun k => ?_) this
    simp only [tombolaref01_Mul.l1]
    have c1 : ¬ (((lb + 1 : Nat) : Int) < ((digs b).length : Int)) := by rw [cla]; exact fun h => Nat.lt_irrefl _ (Nat.lt_of_succ_lt (Int.ofNat_lt.1 h))
    rw [if_neg c1, if_neg (by decide), w1.out]
  | succ m ih =>
    intro d o kk hm hk ho hg hl ho2 hv
    by_cases hgo : kk < lb ∨ 0 < o
    · have hkl : kk ≤ lb := by clear hv hms hblt hda halt h0 fin last ih; omega
      have hlt : i + kk < d.length := by clear hv hms hblt hda halt h0 fin last ih; omega
      have e1 : lb + 1 - (kk + 1) = m := by clear hv hms hblt hda halt h0 fin last ih; omega
      have e2 : kk + 1 ≤ lb + 1 := by clear hv hms hblt hda halt h0 fin last ih; omega
      have hw1 : Aside0 (wrap64 ((i : Int) + kk) = ((i + kk : Nat) : Int)) := ⟨by clear hv hms hblt hda halt h0 fin last ih; rw [i64w (by omega) (by omega)]; omega⟩
      have hw5 : Aside0 (wrap64 ((kk : Int) + 1) = ((kk + 1 : Nat) : Int)) := ⟨by clear hv hms hblt hda halt h0 fin last ih; rw [i64w (by omega) (by omega)]; omega⟩
      have c3 : ((i + kk : Nat) : Int) < (d.length : Int) := Int.ofNat_lt.2 hlt
      have c6 : ¬ ((kk : Int) < ((digs b).length : Int)) → (o : Int) > 0 := by rw [cla]; clear hv hms hblt hda halt h0 fin last ih; omega
      have hdb := dig_digs b kk
      have hmb := mod_step b kk
      have hy1 : b / 65536 ^ kk % 65536 < 65536 := Nat.mod_lt _ (by omega)
      have hk1 := dig_good hg (i + kk)
      have hset := val_set hlt
      generalize b / 65536 ^ kk % 65536 = y at *
      generalize hdk : dig d (i + kk) = dk at *
      have F := mulFacts x y o dk hx1 hy1 ho2 hk1
      have hstep := mul_step (val d) (65536 ^ i) (65536 ^ kk) o ((a % 65536 ^ i : Nat) : Int) x ((b % 65536 ^ kk : Nat) : Int) y dk b hv
      have hnext : Ev (fun k => tombolaref01_Mul.l1 k (d.set (i + kk) ((dk + (x : Int) * y + o) % 65536)) i ((((dk + (x : Int) * y + o) / 65536).toNat : Nat) : Int) (kk + 1 : Nat) (digs a) (digs b)) (digs (a * b)) := by
        have hg' : Dg (d.set (i + kk) ((dk + (x : Int) * y + o) % 65536)) := good_set hg _ F.r0 F.r1
        have hval : val (d.set (i + kk) ((dk + (x : Int) * y + o) % 65536)) + (((dk + (x : Int) * y + o) / 65536).toNat : Nat) * (65536 ^ i * 65536 ^ (kk + 1)) = ((a % 65536 ^ i : Nat) : Int) * b + (x : Int) * (((b % 65536 ^ (kk + 1) : Nat) : Int) * 65536 ^ i) := by
          rw [hset, F.q, hmb, Int.pow_add, Int.pow_succ]
          exact hstep
        refine ih _ _ _ e1 e2 ?_ hg' (by rw [List.length_set]; exact hl) F.q1 hval
        intro hk2
        obtain rfl : kk = lb := Nat.succ.inj hk2
        exact last _ _ hg' hval
      refine Ev.step (fun k => ?_) hnext
      simp only [tombolaref01_Mul.l1]
      by_cases c1 : (kk : Int) < ((digs b).length : Int)
      · rw [if_pos c1, hw1.out, if_pos (Int.natCast_nonneg _), if_pos c3, if_pos (Int.natCast_nonneg _), if_pos c4, digit_eq, hdb]
        simp only [Option.bind_some]
        rw [rd_dig, rd_dig, hdk, hda, F.w2, F.w3, F.w4, hw5.out, F.w6, Int.tmod_eq_emod_of_nonneg F.p, Int.toNat_natCast]
      · rw [if_neg c1, if_pos (c6 c1), hw1.out, if_pos (Int.natCast_nonneg _), if_pos c3, if_pos (Int.natCast_nonneg _), if_pos c4, digit_eq, hdb]
        simp only [Option.bind_some]
        rw [rd_dig, rd_dig, hdk, hda, F.w2, F.w3, F.w4, hw5.out, F.w6, Int.tmod_eq_emod_of_nonneg F.p, Int.toNat_natCast]
    · have ho0 : o = 0 := by clear hv hms hblt hda halt h0 fin last ih; omega
      subst ho0
      have hk3 : lb ≤ kk := by clear hv hms hblt hda halt h0 fin last ih; omega
      have := h0 d hg hl (fin d kk hk3 hg hl (by rw [Int.natCast_zero, Int.zero_mul, Int.add_zero] at hv; exact hv))
      refine Ev.step (fun k => ?_) this
      simp only [tombolaref01_Mul.l1]
      have c1 : ¬ ((kk : Int) < ((digs b).length : Int)) := by rw [cla]; exact fun h => Nat.lt_irrefl _ (Nat.lt_of_le_of_lt hk3 (Int.ofNat_lt.1 h))
      rw [if_neg c1, if_neg (by decide), w1.out]
theorem mul_l0 (a b la lb : Nat) (hla : la < 1000000000) (hlb : lb < 1000000000) (ha : (digs a).length = la) (hb : (digs b).length = lb) (m : Nat) : ∀ (d : List Int) (i : Nat), la - i = m → i ≤ la → Dg d → d.length = la + lb + 1 →
    val d = ((a % 65536 ^ i : Nat) : Int) * b → Ev (fun k => tombolaref01_Mul.l0 k d i (digs a) (digs b)) (digs (a * b)) := by
  have clb : ((digs a).length : Int) = la := by rw [ha]
  induction m with
  | zero =>
    intro d i hm hi hg hl hv
    obtain rfl : i = la := by clear hv; omega
    rw [Nat.mod_eq_of_lt ((digs_len_le a i).1 (by omega)), ← Int.natCast_mul] at hv
    have hc := cut_ev hg (by clear hv; omega)
    rw [hv, Int.toNat_natCast] at hc
    refine Ev.step (f := fun k => (tombolaref01_Cut.f k d).bind fun t142 => some t142) (fun k => ?_) (Ev.bindN hc rfl)
    simp only [tombolaref01_Mul.l0]
    rw [if_neg (by rw [clb]; exact Int.lt_irrefl _)]
  | succ m ih =>
    intro d i hm hi hg hl hv
    have hi' : i < la := by clear hv; omega
    have hi2 : la - (i + 1) = m := by clear hv; omega
    have h1 := mul_l1 a b i la lb hla hlb ha hb hi' (fun d' hg' hl' hv' => ih d' (i + 1) hi2 hi' hg' hl' hv') _ d 0 0 rfl (Nat.zero_le _) (fun _ => rfl) hg hl (by decide) (by rw [Int.natCast_zero, Int.zero_mul, Int.add_zero, Nat.pow_zero, Nat.mod_one, Int.natCast_zero, Int.zero_mul, Int.mul_zero, Int.add_zero]; exact hv)
    refine Ev.step (fun k => ?_) h1
    simp only [tombolaref01_Mul.l0]
    rw [if_pos (by rw [clb]; exact Int.ofNat_lt.2 hi')]
    simp only [Int.natCast_zero]
theorem mul_ev (a b : Nat) (ha : (digs a).length < 1000000000) (hb : (digs b).length < 1000000000) : Ev (fun k => tombolaref01_Mul.f k (digs a) (digs b)) (digs (a * b)) := by
  have h := mul_l0 a b _ _ ha hb rfl rfl _ (List.replicate ((digs a).length + (digs b).length + 1) 0) 0 rfl (Nat.zero_le _) (good_replicate _) (by simp) (by rw [val_replicate, Nat.pow_zero, Nat.mod_one, Int.natCast_zero, Int.zero_mul])
  have e1 : wrap64 ((digs a).length + (digs b).length : Int) = (digs a).length + (digs b).length := i64w (by omega) (by omega)
  have e2 : wrap64 (((digs a).length : Int) + (digs b).length + 1) = (((digs a).length + (digs b).length + 1 : Nat) : Int) := by rw [i64w (by omega) (by omega)]; omega
  refine Ev.congr (fun k => ?_) h
  unfold tombolaref01_Mul.f
  rw [e1, e2, if_pos (by omega), Int.toNat_natCast, if_pos (by omega), Int.natCast_zero]
end Go.Proofs.YteipfcflijdapaaDoor.N
