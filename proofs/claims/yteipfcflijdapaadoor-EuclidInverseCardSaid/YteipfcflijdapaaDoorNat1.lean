-- Cut for this claim by a program (wip/prune.py) out of the texts that its bench laid or wrote
import Derived.Test.YteipfcflijdapaaDoorDigs
import Derived.Test.YteipfcflijdapaaDoorFRef01A
import Derived.Test.YteipfcflijdapaaDoorFRef01C
import Derived.Test.YteipfcflijdapaaDoorFRef01B
namespace Go.Proofs.YteipfcflijdapaaDoor.N
open Go Go.RowKit Go.Proofs.YteipfcflijdapaaDoor.F Go.Proofs.YteipfcflijdapaaDoorW.PrintWords Go.Proofs.YteipfcflijdapaaDoorW.PrintLast Go.Proofs.YteipfcflijdapaaDoorW.PrintMore Go.Proofs.YteipfcflijdapaaDoor.Digs
set_option linter.unusedSimpArgs false
set_option linter.unusedVariables false
theorem u64w {x : Int} (h0 : 0 ≤ x) (h1 : x < 18446744073709551616) : IntKind.u64.wrap x = x := by
  simp [IntKind.wrap, IntKind.bits, IntKind.signed]; omega
theorem i64w {x : Int} (h0 : -9223372036854775808 ≤ x) (h1 : x < 9223372036854775808) : wrap64 x = x := by unfold wrap64; omega
theorem u64_mod (x : Int) : IntKind.u64.wrap x = x % 18446744073709551616 := by
  simp [IntKind.wrap, IntKind.bits, IntKind.signed]
theorem ev_of_eq {α : Type} {g : Nat → Option α} {r : α} (h : ∀ k, g k = some r) : Ev g r := ⟨0, fun k _ => h k⟩
theorem Ev.bindN {α β : Type} {g : Nat → Option α} {f : α → Option β} {a : α} {r : β} (h : Ev g a) (k : f a = some r) : Ev (fun n => (g n).bind f) r :=
  Ev.bind (f := fun _ => f) h (ev_of_eq fun _ => k)
theorem of_l0 (n : Nat) : ∀ (acc : List Int), acc.length + (digs n).length < 17592186044416 → n < 18446744073709551616 →
    Ev (fun k => tombolaref01_Of.l0 k n acc) (acc ++ digs n) := by
  induction n using Nat.strongRecOn with
  | _ n ih =>
    intro acc hl hn
    by_cases h : n = 0
    · subst h
      refine ⟨1, fun k hk => ?_⟩
      obtain ⟨k, rfl⟩ : ∃ m, k = m + 1 := ⟨k - 1, by omega⟩
      simp only [tombolaref01_Of.l0]
      rw [if_neg (by omega), digs_zero, List.append_nil]
    · have hd := digs_pos (n := n) (by omega)
      rw [hd, List.length_cons] at hl
      refine Ev.step (f := fun k => tombolaref01_Of.l0 k ((n / 65536 : Nat) : Int) (acc ++ [((n % 65536 : Nat) : Int)])) (fun k => ?_) ?_
      · simp only [tombolaref01_Of.l0]
        rw [if_pos (by omega), if_pos (by omega)]
        rw [Int.tdiv_eq_ediv_of_nonneg (by omega), Int.tmod_eq_emod_of_nonneg (by omega), u64w (by omega) (by omega), i64w (by omega) (by omega)]
        simp
      · have := ih (n / 65536) (by omega) (acc ++ [((n % 65536 : Nat) : Int)]) (by simp only [List.length_append, List.length_cons, List.length_nil]; omega) (by omega)
        rw [hd]
        simpa using this
theorem u64_len {n : Nat} (h : n < 18446744073709551616) : (digs n).length ≤ 4 := (digs_len_le n 4).2 (by simpa using h)
theorem of_ev (n : Nat) (hn : n < 18446744073709551616) : Ev (fun k => tombolaref01_Of.f k n) (digs n) := by
  have := of_l0 n [] (by have := u64_len hn; simp; omega) hn
  simpa [tombolaref01_Of.f] using this
theorem rd_dig (l : List Int) (i : Nat) : rd l (i : Int) = dig l i := by simp [rd, dig]
theorem digit_eq (l : List Int) (i : Nat) : tombolaref01_digit.f l i = some (dig l i) := by
  unfold tombolaref01_digit.f
  by_cases h : (i : Int) < (l.length : Int)
  · rw [if_pos h, if_pos (by omega), rd_dig]
  · rw [if_neg h, dig_behind (by omega)]
theorem word_l0 (l : List Int) (hg : Dg l) (hl : l.length ≤ 4) (i : Nat) : i ≤ l.length →
    Ev (fun k => tombolaref01_Word.l0 k (val l / 65536 ^ i) ((i : Int) - 1) l) (val l, true) := by
  have hv := val_lt hg
  have hn := val_nonneg hg
  have hlt : val l < 18446744073709551616 := by
    have : (65536 : Int) ^ l.length ≤ 65536 ^ 4 := pow_mono hl
    have e : (65536 : Int) ^ 4 = 18446744073709551616 := by decide
    omega
  induction i with
  | zero =>
    intro _
    refine ⟨1, fun k hk => ?_⟩
    obtain ⟨k, rfl⟩ : ∃ m, k = m + 1 := ⟨k - 1, by omega⟩
    simp only [tombolaref01_Word.l0]
    rw [if_neg (by omega)]; simp
  | succ i ih =>
    intro hi
    refine Ev.step (f := fun k => tombolaref01_Word.l0 k (val l / 65536 ^ i) ((i : Int) - 1) l) (fun k => ?_) (ih (by omega))
    simp only [tombolaref01_Word.l0]
    have e : (((i + 1 : Nat) : Int) - 1) = (i : Int) := by omega
    rw [e, if_pos (by omega), if_pos (by omega), if_pos (by omega), rd_dig]
    have hd := dig_good hg i
    have hdv := dig_val hg i
    have h1 : val l / 65536 ^ (i + 1) = val l / 65536 ^ i / 65536 := by rw [Int.pow_succ, Int.ediv_ediv_of_nonneg (by have := pow_pos' i; omega)]
    have h2 : 0 ≤ val l / 65536 ^ i := Int.ediv_nonneg hn (by have := pow_pos' i; omega)
    have h3 : val l / 65536 ^ i ≤ val l := Int.ediv_le_self _ hn
    have h4 : val l / 65536 ^ i / 65536 * 65536 + dig l i = val l / 65536 ^ i := by omega
    rw [u64w hd.1 (by omega), h1, u64w (x := val l / 65536 ^ i / 65536 * 65536) (by omega) (by omega), h4, u64w (by omega) (by omega), i64w (by omega) (by omega)]
theorem word_good (l : List Int) (hg : Dg l) (hl : l.length ≤ 4) : Ev (fun k => tombolaref01_Word.f k l) (val l, true) := by
  have h := word_l0 l hg hl l.length (Nat.le_refl _)
  have e : val l / 65536 ^ l.length = 0 := Int.ediv_eq_zero_of_lt (val_nonneg hg) (val_lt hg)
  rw [e] at h
  refine Ev.congr (fun k => ?_) h
  unfold tombolaref01_Word.f
  rw [if_neg (by omega), i64w (by omega) (by omega)]
theorem word_ev (n : Nat) (hn : n < 18446744073709551616) : Ev (fun k => tombolaref01_Word.f k (digs n)) ((n : Int), true) := by
  have := word_good (digs n) (good_digs n) (u64_len hn)
  rwa [val_digs] at this
theorem cut_l0 (l : List Int) (hg : Dg l) (hlen : l.length < 17592186044416) (i : Nat) : i ≤ l.length → val (l.take i) = val l →
    Ev (fun k => tombolaref01_Cut.l0 k l i) (digs (val l).toNat) := by
  induction i with
  | zero =>
    intro _ hv
    refine ⟨1, fun k hk => ?_⟩
    obtain ⟨k, rfl⟩ : ∃ m, k = m + 1 := ⟨k - 1, by omega⟩
    simp only [tombolaref01_Cut.l0]
    rw [if_neg (by omega)]
    simp only [Option.bind_some]
    rw [if_pos (by omega), if_pos (by omega)]
    simp only [List.take_zero, val] at hv
    rw [if_pos (by simp), ← hv]
    simp [digs_zero]
  | succ i ih =>
    intro hi hv
    have hgt : Dg (l.take (i + 1)) := fun d hd => hg d (List.mem_of_mem_take hd)
    have hi' : i < l.length := by omega
    have hts : l.take (i + 1) = l.take i ++ [l[i]] := by rw [List.take_succ_eq_append_getElem hi']
    have hdi : dig l i = l[i] := by simp [dig, List.getD_eq_getElem?_getD, List.getElem?_eq_getElem hi']
    have e : wrap64 (((i + 1 : Nat) : Int) - 1) = (i : Int) := by rw [i64w (by omega) (by omega)]; omega
    by_cases hz : dig l i = 0
    · refine Ev.step (f := fun k => tombolaref01_Cut.l0 k l i) (fun k => ?_) (ih (by omega) ?_)
      · simp only [tombolaref01_Cut.l0]
        rw [if_pos (by omega), e, if_pos (by omega), if_pos (by omega), rd_dig, if_pos hz]
      · rw [hts, val_snoc, ← hdi, hz] at hv
        omega
    · refine ⟨1, fun k hk => ?_⟩
      obtain ⟨k, rfl⟩ : ∃ m, k = m + 1 := ⟨k - 1, by omega⟩
      simp only [tombolaref01_Cut.l0]
      rw [if_pos (by omega), e, if_pos (by omega), if_pos (by omega), rd_dig, if_neg hz]
      simp only [Option.bind_some]
      rw [if_pos (by omega), if_pos (by omega)]
      have e2 : ((i + 1 : Nat) : Int).toNat = i + 1 := by omega
      rw [e2, if_pos (by simp; omega)]
      have := digs_val hgt (fun x hx => by rw [hts, List.getLast?_concat] at hx; injection hx with hx; rw [← hx, ← hdi]; exact hz)
      rw [hv] at this
      rw [this]; simp
theorem cut_ev {l : List Int} (hg : Dg l) (hlen : l.length < 17592186044416) : Ev (fun k => tombolaref01_Cut.f k l) (digs (val l).toNat) := by
  have := cut_l0 l hg hlen l.length (Nat.le_refl _) (by rw [List.take_length])
  exact this
theorem sub_l0 (a b : Nat) (hb : b ≤ a) (hM : (digs a).length < 1000000000000) (d : Nat) : ∀ (acc : List Int) (o i : Nat), (digs a).length - i = d → i ≤ (digs a).length → Dg acc → acc.length = i → o < 2 →
    val acc + (b % 65536 ^ i : Nat) = ((a % 65536 ^ i : Nat) : Int) + o * 65536 ^ i →
    Ev (fun k => tombolaref01_Sub.l0 k acc o i (digs a) (digs b)) (digs (a - b)) := by
  induction d with
  | zero =>
    intro acc o i hd hi hg hl ho2 hv
    have h1 : a < 65536 ^ i := (digs_len_le a i).1 (by omega)
    rw [Nat.mod_eq_of_lt h1, Nat.mod_eq_of_lt (by omega)] at hv
    have hlt := val_lt hg
    rw [hl] at hlt
    have hP := pow_pos' i
    have ho : o = 0 := by
      rcases Nat.lt_or_ge 0 o with h | h
      · exfalso
        obtain rfl : o = 1 := by omega
        have : ((b : Nat) : Int) ≤ (a : Int) := by omega
        simp only [Int.natCast_one, Int.one_mul] at hv
        omega
      · omega
    subst ho
    have hc := cut_ev hg (by omega)
    have hva : (val acc).toNat = a - b := by simp at hv; omega
    rw [hva] at hc
    refine Ev.step (f := fun k => (tombolaref01_Cut.f k acc).bind fun t142 => some t142) (fun k => ?_) (Ev.bindN hc rfl)
    simp only [tombolaref01_Sub.l0]; rw [if_neg (by omega)]
  | succ d ih =>
    intro acc o i hd hi hg hl ho2 hv
    have hlt : (i : Int) < ((digs a).length : Int) := by clear hv; omega
    have hi1 : i + 1 ≤ (digs a).length := by clear hv; omega
    have hd1 : (digs a).length - (i + 1) = d := by clear hv; omega
    have hal : acc.length < 17592186044416 := by clear hv; omega
    have hw3 : wrap64 ((i : Int) + 1) = ((i + 1 : Nat) : Int) := by clear hv; rw [i64w (by omega) (by omega)]; omega
    clear hd
    have hda := dig_digs a i
    have hdb := dig_digs b i
    have hma : a % 65536 ^ (i + 1) = a % 65536 ^ i + 65536 ^ i * (a / 65536 ^ i % 65536) := by rw [Nat.pow_succ, Nat.mod_mul]
    have hmb : b % 65536 ^ (i + 1) = b % 65536 ^ i + 65536 ^ i * (b / 65536 ^ i % 65536) := by rw [Nat.pow_succ, Nat.mod_mul]
    generalize hx : a / 65536 ^ i % 65536 = x at *
    generalize hy : b / 65536 ^ i % 65536 = y at *
    have hx1 : x < 65536 := by omega
    have hy1 : y < 65536 := by omega
    have hw1 : wrap64 ((x : Int) - y) = x - y := i64w (by omega) (by omega)
    have hw2 : wrap64 ((x : Int) - y - o) = x - y - o := i64w (by omega) (by omega)
    have hw4 : wrap64 ((x : Int) - y - o + 65536) = (x : Int) - y - o + 65536 := i64w (by omega) (by omega)
    by_cases hneg : (x : Int) - y - o < 0
    · refine Ev.step (f := fun k => tombolaref01_Sub.l0 k (acc ++ [(x : Int) - y - o + 65536]) ((1 : Nat) : Int) (i + 1 : Nat) (digs a) (digs b)) (fun k => ?_) ?_
      · simp only [tombolaref01_Sub.l0]
        rw [if_pos hlt, digit_eq, digit_eq, hda, hdb]
        simp only [Option.bind_some]
        rw [hw1, hw2, if_pos hneg, if_pos hal, hw3, hw4, Int.natCast_one]
      · refine ih _ _ _ hd1 hi1 (good_snoc hg (by omega) (by omega)) (by simp [hl]) (by omega) ?_
        have e2 : ((65536 ^ i : Nat) : Int) = 65536 ^ i := Int.natCast_pow _ _
        have e1 : ((65536 : Int) ^ (i + 1)) = 65536 ^ i * 65536 := Int.pow_succ _ _
        rw [val_snoc, hl, hma, hmb, e1]
        simp only [Int.natCast_add, Int.natCast_mul, e2] at hv ⊢
        generalize (65536 : Int) ^ i = P at *
        have h7 : P * ((x : Int) - y - o + 65536) = P * x - P * y - o * P + P * 65536 := by rw [Int.mul_add, Int.mul_sub, Int.mul_sub, Int.mul_comm P o]
        omega
    · refine Ev.step (f := fun k => tombolaref01_Sub.l0 k (acc ++ [(x : Int) - y - o]) ((0 : Nat) : Int) (i + 1 : Nat) (digs a) (digs b)) (fun k => ?_) ?_
      · simp only [tombolaref01_Sub.l0]
        rw [if_pos hlt, digit_eq, digit_eq, hda, hdb]
        simp only [Option.bind_some]
        rw [hw1, hw2, if_neg hneg, if_pos hal, hw3, Int.natCast_zero]
      · refine ih _ _ _ hd1 hi1 (good_snoc hg (by omega) (by omega)) (by simp [hl]) (by omega) ?_
        have e2 : ((65536 ^ i : Nat) : Int) = 65536 ^ i := Int.natCast_pow _ _
        have e1 : ((65536 : Int) ^ (i + 1)) = 65536 ^ i * 65536 := Int.pow_succ _ _
        rw [val_snoc, hl, hma, hmb, e1]
        simp only [Int.natCast_add, Int.natCast_mul, e2] at hv ⊢
        generalize (65536 : Int) ^ i = P at *
        have h7 : P * ((x : Int) - y - o) = P * x - P * y - o * P := by rw [Int.mul_sub, Int.mul_sub, Int.mul_comm P o]
        omega
theorem sub_ev (a b : Nat) (hb : b ≤ a) (ha : (digs a).length < 1000000000000) : Ev (fun k => tombolaref01_Sub.f k (digs a) (digs b)) (digs (a - b)) :=
  sub_l0 a b hb ha _ [] 0 0 rfl (by omega) good_nil rfl (by omega) (by simp [val, Nat.mod_one])
end Go.Proofs.YteipfcflijdapaaDoor.N
