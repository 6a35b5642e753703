-- Cut for this claim by a program (wip/prune.py) out of the texts that its bench laid or wrote
import Derived.Test.YtjphoempoinedaaDigs
import Derived.Test.YtjphoempoinedaaFRef01A
namespace Go.Proofs.Ytjphoempoinedaa.N
open Go Go.RowKit Go.Proofs.Ytjphoempoinedaa.F Go.Proofs.YtjphoempoinedaaW.PrintWords Go.Proofs.YtjphoempoinedaaW.PrintLast Go.Proofs.YtjphoempoinedaaW.PrintMore Go.Proofs.Ytjphoempoinedaa.Digs
set_option linter.unusedSimpArgs false
set_option linter.unusedVariables false
theorem u64w {x : Int} (h0 : 0 ≤ x) (h1 : x < 18446744073709551616) : IntKind.u64.wrap x = x := by
  simp [IntKind.wrap, IntKind.bits, IntKind.signed]; omega
theorem i64w {x : Int} (h0 : -9223372036854775808 ≤ x) (h1 : x < 9223372036854775808) : wrap64 x = x := by unfold wrap64; omega
theorem u64_mod (x : Int) : IntKind.u64.wrap x = x % 18446744073709551616 := by
  simp [IntKind.wrap, IntKind.bits, IntKind.signed]
theorem ev_of_eq {α : Type} {g : Nat → Option α} {r : α} (h : ∀ k, g k = some r) : Ev g r := ⟨0, fun k _ => h k⟩
theorem Ev.bindN {α β : Type} {g : Nat → Option α} {f : α → Option β} {a : α} {r : β} (h : Ev g a) (k : f a = some r) : Ev (fun n => (g n).bind f) r :=
  Ev.bind (f := fun _ => f) h (ev_of_eq fun _ => k)
theorem of_l0 (n : Nat) : ∀ (acc : List Int), acc.length + (digs n).length < 17592186044416 → n < 18446744073709551616 →
    Ev (fun k => tombolaref01_Of.l0 k n acc) (acc ++ digs n) := by
  induction n using Nat.strongRecOn with
  | _ n ih =>
    intro acc hl hn
    by_cases h : n = 0
    · subst h
      refine ⟨1, fun k hk => ?_⟩
      obtain ⟨k, rfl⟩ : ∃ m, k = m + 1 := ⟨k - 1, by omega⟩
      simp only [tombolaref01_Of.l0]
      rw [if_neg (by omega), digs_zero, List.append_nil]
    · have hd := digs_pos (n := n) (by omega)
      rw [hd, List.length_cons] at hl
      refine Ev.step (f := fun k => tombolaref01_Of.l0 k ((n / 65536 : Nat) : Int) (acc ++ [((n % 65536 : Nat) : Int)])) (fun k => ?_) ?_
      · simp only [tombolaref01_Of.l0]
        rw [if_pos (by omega), if_pos (by omega)]
        rw [Int.tdiv_eq_ediv_of_nonneg (by omega), Int.tmod_eq_emod_of_nonneg (by omega), u64w (by omega) (by omega), i64w (by omega) (by omega)]
        simp
      · have := ih (n / 65536) (by omega) (acc ++ [((n % 65536 : Nat) : Int)]) (by simp only [List.length_append, List.length_cons, List.length_nil]; omega) (by omega)
        rw [hd]
        simpa using this
theorem u64_len {n : Nat} (h : n < 18446744073709551616) : (digs n).length ≤ 4 := (digs_len_le n 4).2 (by simpa using h)
theorem of_ev (n : Nat) (hn : n < 18446744073709551616) : Ev (fun k => tombolaref01_Of.f k n) (digs n) := by
  have := of_l0 n [] (by have := u64_len hn; simp; omega) hn
  simpa [tombolaref01_Of.f] using this
theorem rd_dig (l : List Int) (i : Nat) : rd l (i : Int) = dig l i := by simp [rd, dig]
theorem digit_eq (l : List Int) (i : Nat) : tombolaref01_digit.f l i = some (dig l i) := by
  unfold tombolaref01_digit.f
  by_cases h : (i : Int) < (l.length : Int)
  · rw [if_pos h, if_pos (by omega), rd_dig]
  · rw [if_neg h, dig_behind (by omega)]
theorem word_l0 (l : List Int) (hg : Dg l) (hl : l.length ≤ 4) (i : Nat) : i ≤ l.length →
    Ev (fun k => tombolaref01_Word.l0 k (val l / 65536 ^ i) ((i : Int) - 1) l) (val l, true) := by
  have hv := val_lt hg
  have hn := val_nonneg hg
  have hlt : val l < 18446744073709551616 := by
    have : (65536 : Int) ^ l.length ≤ 65536 ^ 4 := pow_mono hl
    have e : (65536 : Int) ^ 4 = 18446744073709551616 := by decide
    omega
  induction i with
  | zero =>
    intro _
    refine ⟨1, fun k hk => ?_⟩
    obtain ⟨k, rfl⟩ : ∃ m, k = m + 1 := ⟨k - 1, by omega⟩
    simp only [tombolaref01_Word.l0]
    rw [if_neg (by omega)]; simp
  | succ i ih =>
    intro hi
    refine Ev.step (f := fun k => tombolaref01_Word.l0 k (val l / 65536 ^ i) ((i : Int) - 1) l) (fun k => ?_) (ih (by omega))
    simp only [tombolaref01_Word.l0]
    have e : (((i + 1 : Nat) : Int) - 1) = (i : Int) := by omega
    rw [e, if_pos (by omega), if_pos (by omega), if_pos (by omega), rd_dig]
    have hd := dig_good hg i
    have hdv := dig_val hg i
    have h1 : val l / 65536 ^ (i + 1) = val l / 65536 ^ i / 65536 := by rw [Int.pow_succ, Int.ediv_ediv_of_nonneg (by have := pow_pos' i; omega)]
    have h2 : 0 ≤ val l / 65536 ^ i := Int.ediv_nonneg hn (by have := pow_pos' i; omega)
    have h3 : val l / 65536 ^ i ≤ val l := Int.ediv_le_self _ hn
    have h4 : val l / 65536 ^ i / 65536 * 65536 + dig l i = val l / 65536 ^ i := by omega
    rw [u64w hd.1 (by omega), h1, u64w (x := val l / 65536 ^ i / 65536 * 65536) (by omega) (by omega), h4, u64w (by omega) (by omega), i64w (by omega) (by omega)]
theorem word_good (l : List Int) (hg : Dg l) (hl : l.length ≤ 4) : Ev (fun k => tombolaref01_Word.f k l) (val l, true) := by
  have h := word_l0 l hg hl l.length (Nat.le_refl _)
  have e : val l / 65536 ^ l.length = 0 := Int.ediv_eq_zero_of_lt (val_nonneg hg) (val_lt hg)
  rw [e] at h
  refine Ev.congr (fun k => ?_) h
  unfold tombolaref01_Word.f
  rw [if_neg (by omega), i64w (by omega) (by omega)]
theorem word_ev (n : Nat) (hn : n < 18446744073709551616) : Ev (fun k => tombolaref01_Word.f k (digs n)) ((n : Int), true) := by
  have := word_good (digs n) (good_digs n) (u64_len hn)
  rwa [val_digs] at this
theorem word_no (n : Nat) (hn : 18446744073709551616 ≤ n) : Ev (fun k => tombolaref01_Word.f k (digs n)) (0, false) := by
  have : ¬ (digs n).length ≤ 4 := fun h => by have := (digs_len_le n 4).1 h; simp at this; omega
  refine ev_of_eq fun k => ?_
  unfold tombolaref01_Word.f
  rw [if_pos (by omega)]
theorem cut_l0 (l : List Int) (hg : Dg l) (hlen : l.length < 17592186044416) (i : Nat) : i ≤ l.length → val (l.take i) = val l →
    Ev (fun k => tombolaref01_Cut.l0 k l i) (digs (val l).toNat) := by
  induction i with
  | zero =>
    intro _ hv
    refine ⟨1, fun k hk => ?_⟩
    obtain ⟨k, rfl⟩ : ∃ m, k = m + 1 := ⟨k - 1, by omega⟩
    simp only [tombolaref01_Cut.l0]
    rw [if_neg (by omega)]
    simp only [Option.bind_some]
    rw [if_pos (by omega), if_pos (by omega)]
    simp only [List.take_zero, val] at hv
    rw [if_pos (by simp), ← hv]
    simp [digs_zero]
  | succ i ih =>
    intro hi hv
    have hgt : Dg (l.take (i + 1)) := fun d hd => hg d (List.mem_of_mem_take hd)
    have hi' : i < l.length := by omega
    have hts : l.take (i + 1) = l.take i ++ [l[i]] := by rw [List.take_succ_eq_append_getElem hi']
    have hdi : dig l i = l[i] := by simp [dig, List.getD_eq_getElem?_getD, List.getElem?_eq_getElem hi']
    have e : wrap64 (((i + 1 : Nat) : Int) - 1) = (i : Int) := by rw [i64w (by omega) (by omega)]; omega
    by_cases hz : dig l i = 0
    · refine Ev.step (f := fun k => tombolaref01_Cut.l0 k l i) (fun k => ?_) (ih (by omega) ?_)
      · simp only [tombolaref01_Cut.l0]
        rw [if_pos (by omega), e, if_pos (by omega), if_pos (by omega), rd_dig, if_pos hz]
      · rw [hts, val_snoc, ← hdi, hz] at hv
        omega
    · refine ⟨1, fun k hk => ?_⟩
      obtain ⟨k, rfl⟩ : ∃ m, k = m + 1 := ⟨k - 1, by omega⟩
      simp only [tombolaref01_Cut.l0]
      rw [if_pos (by omega), e, if_pos (by omega), if_pos (by omega), rd_dig, if_neg hz]
      simp only [Option.bind_some]
      rw [if_pos (by omega), if_pos (by omega)]
      have e2 : ((i + 1 : Nat) : Int).toNat = i + 1 := by omega
      rw [e2, if_pos (by simp; omega)]
      have := digs_val hgt (fun x hx => by rw [hts, List.getLast?_concat] at hx; injection hx with hx; rw [← hx, ← hdi]; exact hz)
      rw [hv] at this
      rw [this]; simp
theorem cut_ev {l : List Int} (hg : Dg l) (hlen : l.length < 17592186044416) : Ev (fun k => tombolaref01_Cut.f k l) (digs (val l).toNat) := by
  have := cut_l0 l hg hlen l.length (Nat.le_refl _) (by rw [List.take_length])
  exact this
theorem add_l0 (a b : Nat) (M : Nat) (hM : M < 1000000000000) (ha : a < 65536 ^ M) (hb : b < 65536 ^ M) (d : Nat) : ∀ (acc : List Int) (o i : Nat), M + 1 - i = d → i ≤ M + 1 → (i = M + 1 → o = 0) → Dg acc → acc.length = i → o < 2 →
    val acc + o * 65536 ^ i = ((a % 65536 ^ i + b % 65536 ^ i : Nat) : Int) →
    Ev (fun k => tombolaref01_Add.l0 k acc o i (digs a) (digs b)) (digs (a + b)) := by
  have hla := (digs_len_le a M).2 ha
  have hlb := (digs_len_le b M).2 hb
  induction d with
  | zero =>
    intro acc o i hd hi ho hg hl ho2 hv
    obtain rfl : i = M + 1 := by omega
    obtain rfl := ho rfl
    have e : (a % 65536 ^ (M + 1) + b % 65536 ^ (M + 1)) = a + b := by
      rw [Nat.mod_eq_of_lt (by rw [Nat.pow_succ]; omega), Nat.mod_eq_of_lt (by rw [Nat.pow_succ]; omega)]
    rw [e] at hv
    have hc := cut_ev hg (by omega)
    have hva : (val acc).toNat = a + b := by simp at hv; omega
    rw [hva] at hc
    refine Ev.step (f := fun k => tombolaref01_Add.j1 k acc (0 : Nat) (M + 1 : Nat) (decide (((0 : Nat) : Int) > 0)) (digs a) (digs b)) (fun k => ?_) (Ev.step (f := fun k => (tombolaref01_Cut.f k acc).bind fun t142 => some t142) (fun k => ?_) (Ev.bindN hc rfl))
    · simp only [tombolaref01_Add.l0]; rw [if_neg (by omega), if_neg (by omega)]
    · simp only [tombolaref01_Add.j1]; simp
  | succ d ih =>
    intro acc o i hd hi ho hg hl ho2 hv
    by_cases hgo : i < (digs a).length ∨ i < (digs b).length ∨ 0 < o
    ·
      have hda := dig_digs a i
      have hdb := dig_digs b i
      have hP : 0 < 65536 ^ i := Nat.pow_pos (by omega)
      have hma : a % 65536 ^ (i + 1) = a % 65536 ^ i + 65536 ^ i * (a / 65536 ^ i % 65536) := by rw [Nat.pow_succ, Nat.mod_mul]
      have hmb : b % 65536 ^ (i + 1) = b % 65536 ^ i + 65536 ^ i * (b / 65536 ^ i % 65536) := by rw [Nat.pow_succ, Nat.mod_mul]
      generalize hx : a / 65536 ^ i % 65536 = x at *
      generalize hy : b / 65536 ^ i % 65536 = y at *
      have hx1 : x < 65536 := by omega
      have hy1 : y < 65536 := by omega
      have hr : Ev (fun k => tombolaref01_Add.l0 k (acc ++ [(((x + y + o) % 65536 : Nat) : Int)]) (((x + y + o) / 65536 : Nat) : Int) (i + 1 : Nat) (digs a) (digs b)) (digs (a + b)) := by
        refine ih _ _ _ (by omega) (by omega) ?_ (good_snoc hg (by omega) (by omega)) (by simp; omega) (by omega) ?_
        · intro hi1
          obtain rfl : i = M := by omega
          have : x = 0 := by rw [← hx, Nat.div_eq_of_lt ha]
          have : y = 0 := by rw [← hy, Nat.div_eq_of_lt hb]
          omega
        · rw [val_snoc, hl, hma, hmb]
          have e1 : ((65536 : Int) ^ (i + 1)) = 65536 ^ i * 65536 := Int.pow_succ _ _
          have e2 : ((65536 ^ i : Nat) : Int) = 65536 ^ i := Int.natCast_pow _ _
          rw [e1]
          simp only [Int.natCast_add, Int.natCast_mul, e2] at hv ⊢
          generalize (65536 : Int) ^ i = P at *
          have h5 : (((x + y + o) % 65536 : Nat) : Int) + (((x + y + o) / 65536 : Nat) : Int) * 65536 = x + y + o := by omega
          have h6 : P * (((x + y + o) % 65536 : Nat) : Int) + (((x + y + o) / 65536 : Nat) : Int) * (P * 65536) = P * (x + y + o) := by
            rw [← h5, Int.mul_add, Int.mul_comm P 65536, ← Int.mul_assoc, Int.mul_comm _ P]
          have h7 : P * ((x : Int) + y + o) = P * x + P * y + o * P := by rw [Int.mul_add, Int.mul_add, Int.mul_comm P o]
          omega
      have hj : Ev (fun k => tombolaref01_Add.j1 k acc o i true (digs a) (digs b)) (digs (a + b)) := by
        refine Ev.step (fun k => ?_) hr
        simp only [tombolaref01_Add.j1]
        rw [digit_eq, digit_eq, hda, hdb]
        simp only [Option.bind_some, if_true]
        rw [if_pos (by omega), i64w (x := (x : Int) + y) (by omega) (by omega), i64w (x := (x : Int) + y + o) (by omega) (by omega), Int.tmod_eq_emod_of_nonneg (by omega), Int.tdiv_eq_ediv_of_nonneg (by omega), i64w (by omega) (by omega), i64w (by omega) (by omega)]
        simp
      refine Ev.step (f := fun k => tombolaref01_Add.j1 k acc o i true (digs a) (digs b)) (fun k => ?_) hj
      simp only [tombolaref01_Add.l0]
      by_cases h1 : (i : Int) < ((digs a).length : Int)
      · rw [if_pos h1]
      · rw [if_neg h1]
        by_cases h2 : (i : Int) < ((digs b).length : Int)
        · rw [if_pos h2]
        · rw [if_neg h2, decide_eq_true (by omega)]
    ·
      have ho0 : o = 0 := by omega
      subst ho0
      have h1 : a < 65536 ^ i := (digs_len_le a i).1 (by omega)
      have h2 : b < 65536 ^ i := (digs_len_le b i).1 (by omega)
      rw [Nat.mod_eq_of_lt h1, Nat.mod_eq_of_lt h2] at hv
      have hc := cut_ev hg (by omega)
      have hva : (val acc).toNat = a + b := by simp at hv; omega
      rw [hva] at hc
      refine Ev.step (f := fun k => tombolaref01_Add.j1 k acc (0 : Nat) i (decide (((0 : Nat) : Int) > 0)) (digs a) (digs b)) (fun k => ?_) (Ev.step (f := fun k => (tombolaref01_Cut.f k acc).bind fun t142 => some t142) (fun k => ?_) (Ev.bindN hc rfl))
      · simp only [tombolaref01_Add.l0]; rw [if_neg (by omega), if_neg (by omega)]
      · simp only [tombolaref01_Add.j1]; simp
theorem add_ev (a b : Nat) (ha : (digs a).length < 1000000000000) (hb : (digs b).length < 1000000000000) : Ev (fun k => tombolaref01_Add.f k (digs a) (digs b)) (digs (a + b)) := by
  have h1 := (digs_len_le a (max (digs a).length (digs b).length)).1 (by omega)
  have h2 := (digs_len_le b (max (digs a).length (digs b).length)).1 (by omega)
  exact add_l0 a b _ (by omega) h1 h2 _ [] 0 0 rfl (by omega) (by omega) good_nil rfl (by omega) (by simp [val, Nat.mod_one])
end Go.Proofs.Ytjphoempoinedaa.N
