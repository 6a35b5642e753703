import Derived.Test.YtogdooclldoomaaWirePure
namespace Go.Proofs.Ytogdooclldoomaa.F
open Go.RowKit Go.Proofs.YtogdooclldoomaaW.PrintWords Go.Proofs.YtogdooclldoomaaW.PrintLast Go.Proofs.YtogdooclldoomaaW.PrintMore
set_option linter.unusedSimpArgs false
set_option linter.unusedVariables false
/-! What was put is read. -/
theorem shl_val (x : Int) (i : Nat) (hi : i ≤ 9) (h0 : 0 ≤ x) (h1 : x * 2 ^ (7 * i) < 18446744073709551616) : shl .u64 x (wrap64 (7 * (i : Int))) = x * 2 ^ (7 * i) := by
  have e : wrap64 (7 * (i : Int)) = ((7 * i : Nat) : Int) := by
    have h2 : 7 * (i : Int) ≤ 63 ∧ 0 ≤ 7 * (i : Int) := by omega
    rw [Int.natCast_mul]
    show wrap64 (7 * (i : Int)) = 7 * (i : Int)
    generalize 7 * (i : Int) = e at h2 ⊢
    unfold wrap64
    omega
  unfold shl
  rw [e, Int.toNat_natCast, Nat.min_eq_left (show 7 * i ≤ IntKind.u64.bits by show 7 * i ≤ 64; omega)]
  have hp : (0 : Int) ≤ x * 2 ^ (7 * i) := Int.mul_nonneg h0 (Int.le_of_lt (Int.pow_pos (by decide)))
  rw [wrap_u64]
  exact Int.emod_eq_of_lt hp h1
theorem lookN_val (n c : Int) (i : Nat) (hi : i ≤ 9) (hn0 : 0 ≤ n) (hn : n < 2 ^ (7 * i)) (hc0 : 0 ≤ c) (hc : c < 256) (h9 : i = 9 → c ≤ 1) : lookN n c (i : Int) = n + c % 128 * 2 ^ (7 * i) := by
  unfold lookN
  have hx : c % 128 * 2 ^ (7 * i) < 18446744073709551616 := by
    by_cases e9 : i = 9
    · subst e9
      have := h9 rfl
      have h2 : c % 128 ≤ 1 := by omega
      have : c % 128 * 2 ^ (7 * 9) ≤ 1 * 2 ^ (7 * 9) := Int.mul_le_mul_of_nonneg_right h2 (by decide)
      exact Int.lt_of_le_of_lt this (by decide)
    · have h2 : c % 128 ≤ 127 := by omega
      have hpw : (2 : Int) ^ (7 * i) ≤ 2 ^ 56 := by
        have := Nat.pow_le_pow_right (n := 2) (by decide) (show 7 * i ≤ 56 by omega)
        exact_mod_cast this
      have h3 : c % 128 * 2 ^ (7 * i) ≤ 127 * 2 ^ (7 * i) := Int.mul_le_mul_of_nonneg_right h2 (Int.le_of_lt (Int.pow_pos (by decide)))
      have h4 : (127 : Int) * 2 ^ (7 * i) ≤ 127 * 2 ^ 56 := Int.mul_le_mul_of_nonneg_left hpw (by decide)
      exact Int.lt_of_le_of_lt (Int.le_trans h3 h4) (by decide)
  rw [low7 c hc0 hc, wrap_u64, Int.emod_eq_of_lt (show (0 : Int) ≤ c % 128 by omega) (by omega), shl_val (c % 128) i hi (by omega) hx, bits_or_comm]
  have hn64 : n < 2 ^ 64 := Int.lt_of_lt_of_le hn (by
    have := Nat.pow_le_pow_right (n := 2) (by decide) (show 7 * i ≤ 64 by omega)
    exact_mod_cast this)
  rw [bits_join .u64 64 (by decide) wraps_u64 (7 * i) _ n (Int.mul_nonneg (by omega) (Int.le_of_lt (Int.pow_pos (by decide)))) (Int.mul_emod_left _ _) hx hn0 hn hn64]
  omega
theorem lookL_enc (rest : List Int) : ∀ (f i : Nat) (n acc : Int), i + f = 9 → 0 ≤ n → n < 128 ^ (f + 1) → (f = 0 → n ≤ 1) → (0 < i → 0 < n) → 0 ≤ acc → acc < 2 ^ (7 * i) → n * 2 ^ (7 * i) < 18446744073709551616 →
    lookL (encF f n ++ rest) i acc = (acc + n * 2 ^ (7 * i), ((i + (encF f n).length : Nat) : Int), 0) := by
  intro f
  induction f with
  | zero =>
    intro i n acc hi h0 h1 hf hp ha0 ha1 hw
    have hn := hf rfl
    obtain rfl : i = 9 := by omega
    have hp' := hp (by decide)
    obtain rfl : n = 1 := by omega
    show lookL (1 :: rest) 9 acc = _
    unfold lookL
    rw [if_neg (by decide), if_pos (by decide), lookN_val acc 1 9 (by decide) ha0 ha1 (by decide) (by decide) (by decide)]
    rfl
  | succ f ih =>
    intro i n acc hi h0 h1 hf hp ha0 ha1 hw
    unfold encF
    have hi9 : i ≠ 9 := by omega
    have b9 : ((i : Int) == 9) = false := beq_eq_false_iff_ne.mpr (by omega)
    by_cases h2 : n < 128
    · rw [if_pos h2]
      show lookL (n :: rest) i acc = _
      unfold lookL
      have hbad : ¬ ((decide ((0 : Int) < (i : Int)) && n == 0) || ((i : Int) == 9 && decide (1 < n))) = true := by
        rw [b9]
        simp only [Bool.false_and, Bool.or_false]
        intro h
        rw [Bool.and_eq_true] at h
        have h3 := of_decide_eq_true h.1
        have h4 := eq_of_beq h.2
        have := hp (by omega)
        omega
      rw [if_neg hbad, if_pos (decide_eq_true h2), lookN_val acc n i (by omega) ha0 ha1 h0 (by omega) (by omega), Int.emod_eq_of_lt h0 h2]
      rfl
    · rw [if_neg h2]
      show lookL ((n % 128 + 128) :: (encF f (n / 128) ++ rest)) i acc = _
      unfold lookL
      have hbad : ¬ ((decide ((0 : Int) < (i : Int)) && (n % 128 + 128) == 0) || ((i : Int) == 9 && decide (1 < n % 128 + 128))) = true := by
        rw [b9]
        simp only [Bool.false_and, Bool.or_false]
        intro h
        rw [Bool.and_eq_true] at h
        have h4 := eq_of_beq h.2
        omega
      rw [if_neg hbad, if_neg (show ¬ decide (n % 128 + 128 < 128) = true by rw [decide_eq_true_eq]; omega), lookN_val acc (n % 128 + 128) i (by omega) ha0 ha1 (by omega) (by omega) (by omega)]
      have em : (n % 128 + 128) % 128 = n % 128 := by omega
      have ep : (2 : Int) ^ (7 * (i + 1)) = 2 ^ (7 * i) * 128 := by rw [show 7 * (i + 1) = 7 * i + 7 by omega, Int.pow_add]; rfl
      have hpos : (0 : Int) < 2 ^ (7 * i) := Int.pow_pos (by decide)
      have e1 : (128 : Int) ^ (f + 1 + 1) = 128 ^ (f + 1) * 128 := Int.pow_succ _ _
      rw [em]
      have hsplit : n = 128 * (n / 128) + n % 128 := by omega
      have hm0 : 0 ≤ n % 128 ∧ n % 128 < 128 := by omega
      have hq0 : 1 ≤ n / 128 := by omega
      rw [ih (i + 1) (n / 128) (acc + n % 128 * 2 ^ (7 * i)) (by omega) (by omega) ?g1 ?g2 (fun _ => by omega) ?g3 ?g4 ?g5]
      case g1 =>
        rw [e1] at h1
        generalize (128 : Int) ^ (f + 1) = p at h1 ⊢
        omega
      case g2 =>
        intro hf0
        subst hf0
        obtain rfl : i = 8 := by omega
        have : n * 2 ^ (7 * 8) < 18446744073709551616 := hw
        have e : (2 : Int) ^ (7 * 8) = 72057594037927936 := by decide
        rw [e] at this
        omega
      case g3 =>
        have := Int.mul_nonneg hm0.1 (Int.le_of_lt hpos)
        omega
      case g4 =>
        rw [ep]
        have h3 : n % 128 * 2 ^ (7 * i) ≤ 127 * 2 ^ (7 * i) := Int.mul_le_mul_of_nonneg_right (by omega) (Int.le_of_lt hpos)
        generalize n % 128 * 2 ^ (7 * i) = y at h3 ⊢
        omega
      case g5 =>
        rw [ep]
        have h3 : n / 128 * (2 ^ (7 * i) * 128) ≤ n * 2 ^ (7 * i) := by
          have h4 : n / 128 * 128 ≤ n := by omega
          have h5 := Int.mul_le_mul_of_nonneg_right h4 (Int.le_of_lt hpos)
          have h6 : n / 128 * (2 ^ (7 * i) * 128) = n / 128 * 128 * 2 ^ (7 * i) := by rw [Int.mul_assoc, Int.mul_comm (2 ^ (7 * i)) 128]
          omega
        omega
      have e3 : acc + n % 128 * 2 ^ (7 * i) + n / 128 * 2 ^ (7 * (i + 1)) = acc + n * 2 ^ (7 * i) := by
        rw [ep]
        have h6 : n / 128 * (2 ^ (7 * i) * 128) = 128 * (n / 128) * 2 ^ (7 * i) := by rw [Int.mul_comm (2 ^ (7 * i)) 128, ← Int.mul_assoc, Int.mul_comm (n / 128) 128]
        have h7 : n * 2 ^ (7 * i) = 128 * (n / 128) * 2 ^ (7 * i) + n % 128 * 2 ^ (7 * i) := by rw [← Int.add_mul, ← hsplit]
        omega
      rw [e3]
      have e4 : i + 1 + (encF f (n / 128)).length = i + ((n % 128 + 128) :: encF f (n / 128)).length := by simp only [List.length_cons]; omega
      rw [e4]
theorem look_enc (rest : List Int) (n : Int) (h0 : 0 ≤ n) (h1 : n < 18446744073709551616) : lookL (enc n ++ rest) 0 0 = (n, ((enc n).length : Int), 0) := by
  have := lookL_enc rest 9 0 n 0 (by decide) h0 (Int.lt_trans h1 (by decide)) (fun h => absurd h (by decide)) (fun h => absurd h (by decide)) (by decide) (by decide) (by simpa using h1)
  unfold enc
  rw [this]
  simp
theorem num_enc (rest : List Int) (n : Int) (h0 : 0 ≤ n) (h1 : n < 18446744073709551616) : numR (enc n ++ rest) 0 n = (n, rest, 0) := by
  unfold numR
  rw [if_pos rfl, look_enc rest n h0 h1]
  simp
theorem text_enc (s : ByteArray) (h : s.size ≤ 1000) : textR (enc (s.size : Int) ++ bytesOf s) 0 (s.size : Int) = (strOfNums (bytesOf s), [], 0) := by
  have hm : IntKind.u64.wrap (mx (s.size : Int) 0) = (s.size : Int) := by
    rw [wrap_u64]
    unfold mx
    split <;> omega
  have hw : wrap64 (s.size : Int) = (s.size : Int) := by unfold wrap64; omega
  have hi : intR (enc (s.size : Int) ++ bytesOf s) 0 (s.size : Int) = ((s.size : Int), bytesOf s, 0) := by
    unfold intR
    rw [hm, num_enc _ _ (by omega) (by omega)]
    simp only
    rw [hw]
  unfold textR
  rw [if_pos rfl, hi]
  have hl := bytesOf_length s
  simp only [if_true]
  rw [if_neg (by omega), Int.toNat_natCast, List.take_of_length_le (by omega), List.drop_eq_nil_of_le (by omega)]
theorem str_bytes (s : ByteArray) : strOfNums (bytesOf s) = s := by
  obtain ⟨a⟩ := s
  unfold strOfNums bytesOf
  simp only [List.map_map]
  have : (a.toList.map ((fun n : Int => UInt8.ofNat n.toNat) ∘ fun b : UInt8 => (b.toNat : Int))) = a.toList := by
    have e : ((fun n : Int => UInt8.ofNat n.toNat) ∘ fun b : UInt8 => (b.toNat : Int)) = id := by
      funext b
      simp
    rw [e, List.map_id]
  rw [this]
/-! The document's puts. -/
theorem refput_l0 : ∀ (f : Nat) (x0 : List Int) (x1 : Int), 0 ≤ x1 → x1 < 18446744073709551616 → x1 < 128 ^ (f + 1) → x0.length + f + 1 < 140737488355328 → tombolaref05_Put.l0 (f + 1) x0 x1 = some (x0 ++ encF f x1) := by
  intro f
  induction f with
  | zero =>
    intro x0 x1 h0 hw h1 hl
    have h1' : x1 < 128 := by simpa using h1
    unfold tombolaref05_Put.l0
    rw [if_neg (by omega), if_pos (by omega), Int.emod_eq_of_lt h0 (by omega)]
    rfl
  | succ f ih =>
    intro x0 x1 h0 hw h1 hl
    unfold tombolaref05_Put.l0 encF
    by_cases h2 : x1 < 128
    · rw [if_pos h2, if_neg (by omega), if_pos (by omega), Int.emod_eq_of_lt h0 (by omega)]
    · have e1 : (IntKind.u64.wrap (128 + Int.tmod x1 128)) % 256 = x1 % 128 + 128 := by
        rw [wrap_u64, Int.tmod_eq_emod_of_nonneg h0]
        omega
      have e2 : IntKind.u64.wrap (Int.tdiv x1 128) = x1 / 128 := by
        rw [wrap_u64, Int.tdiv_eq_ediv_of_nonneg h0]
        omega
      rw [if_neg h2, if_pos (by omega), if_pos (by omega), e1, e2]
      have e3 : (128 : Int) ^ (f + 1 + 1) = 128 ^ (f + 1) * 128 := Int.pow_succ _ _
      rw [e3] at h1
      rw [ih _ _ (by omega) (by omega) (by generalize (128 : Int) ^ (f + 1) = p at h1 ⊢; omega) (by simp only [List.length_append, List.length_cons, List.length_nil]; omega), List.append_assoc]
      rfl
theorem refput (b : List Int) (n : Int) (h0 : 0 ≤ n) (hw : n < 18446744073709551616) (hb : b.length ≤ 1000000) : tombolaref05_Put.f 10 b n = some (b ++ enc n) :=
  refput_l0 9 b n h0 hw (by omega) (by omega)
theorem refputText_l0 (s : ByteArray) (hs : s.size ≤ 1000) : ∀ (m i : Nat) (out : List Int), i + m = s.size → out.length + m ≤ 1000000 → tombolaref05_PutText.l0 (m + 1) out s (i : Int) = some (out ++ (bytesOf s).drop i) := by
  intro m
  induction m with
  | zero =>
    intro i out hi ho
    unfold tombolaref05_PutText.l0
    rw [if_neg (by omega), List.drop_eq_nil_of_le (by rw [bytesOf_length]; omega), List.append_nil]
  | succ m ih =>
    intro i out hi ho
    have hl := bytesOf_length s
    have hlt : i < (bytesOf s).length := by omega
    unfold tombolaref05_PutText.l0
    rw [if_pos (by omega), if_pos (by omega), if_pos (by omega), show wrap64 ((i : Int) + 1) = ((i + 1 : Nat) : Int) by unfold wrap64; omega, ih (i + 1) _ (by omega) (by simp only [List.length_append, List.length_cons, List.length_nil]; omega), List.append_assoc, List.drop_eq_getElem_cons hlt, ← rd_bytesOf, show rd (bytesOf s) (i : Int) = (bytesOf s)[i] by simp [rd, hlt]]
    rfl
theorem refputText (b : List Int) (s : ByteArray) (hb : b.length ≤ 1000) (hs : s.size ≤ 1000) : tombolaref05_PutText.f 1020 b s = some (b ++ enc (s.size : Int) ++ bytesOf s) := by
  have e : IntKind.u64.wrap (s.size : Int) = (s.size : Int) := by rw [wrap_u64]; omega
  have hp := at_rounds (fun k => tombolaref05_Put.mono b (s.size : Int) k) (show 10 ≤ 1020 by decide) (refput b (s.size : Int) (by omega) (by omega) (by omega))
  have h1 := encF_len 9 (s.size : Int)
  have ht := refputText_l0 s hs s.size 0 (b ++ enc (s.size : Int)) (by omega) (by rw [List.length_append]; unfold enc; omega)
  have ht2 := at_rounds (fun k => tombolaref05_PutText.mono_l k (b ++ enc (s.size : Int)) s 0) (show s.size + 1 ≤ 1020 by omega) ht
  unfold tombolaref05_PutText.f
  rw [e, hp]
  simp only [Option.bind_some]
  rw [ht2, List.drop_zero]
end Go.Proofs.Ytogdooclldoomaa.F
