-- Cut for this claim by a program (wip/prune.py) out of the texts that its bench laid or wrote
import Derived.Test.YtmfacoccojenlaaDoorFBitsA
import Derived.Shelf.Spec.TrailingZeros
import Derived.Laws.Bits64b
namespace Go.Proofs.YtmfacoccojenlaaDoor.N
open Go Go.RowKit Go.Proofs.YtmfacoccojenlaaDoor.F Go.Proofs.YtmfacoccojenlaaDoorW.PrintWords Go.Proofs.YtmfacoccojenlaaDoorW.PrintLast Go.Proofs.YtmfacoccojenlaaDoorW.PrintMore
set_option linter.unusedSimpArgs false
set_option linter.unusedVariables false
def fz : List Bool → Nat
  | [] => 0
  | false :: _ => 0
  | true :: l => fz l + 1
theorem fz_le : ∀ l, fz l ≤ l.length
  | [] => Nat.le_refl _
  | false :: l => Nat.zero_le _
  | true :: l => Nat.succ_le_succ (fz_le l)
theorem fz_true : ∀ (l : List Bool) (i : Nat), i < fz l → l.getD i false = true
  | [], i, h => absurd h (Nat.not_lt_zero _)
  | false :: l, i, h => absurd h (Nat.not_lt_zero _)
  | true :: l, 0, _ => rfl
  | true :: l, i + 1, h => by simpa using fz_true l i (Nat.lt_of_succ_lt_succ h)
theorem fz_false : ∀ (l : List Bool), l.getD (fz l) false = false
  | [] => rfl
  | false :: l => rfl
  | true :: l => by simpa [fz] using fz_false l
theorem fz_is {l : List Bool} {p : Nat} (h1 : ∀ i, i < p → l.getD i false = true) (h2 : l.getD p false = false) : fz l = p := by
  rcases Nat.lt_trichotomy (fz l) p with h | h | h
  · have := h1 _ h; rw [fz_false] at this; cases this
  · exact h
  · have := fz_true l p h; rw [h2] at this; cases this
def cnt (l : List Bool) : Nat := l.count true
theorem cnt_le (l : List Bool) : cnt l ≤ l.length := List.count_le_length
theorem cnt_full : ∀ l : List Bool, cnt l = l.length ↔ fz l = l.length
  | [] => by simp [cnt, fz]
  | false :: l => by
    have := cnt_le l
    simp only [cnt, List.length_cons, fz] at *
    rw [List.count_cons_of_ne (by decide)]
    omega
  | true :: l => by
    have := cnt_full l
    simp only [cnt, List.length_cons, fz] at *
    rw [List.count_cons_self]
    omega
theorem cnt_set_true : ∀ (l : List Bool) (i : Nat), i < l.length → l.getD i false = false → cnt (l.set i true) = cnt l + 1
  | [], i, h, _ => absurd h (Nat.not_lt_zero _)
  | b :: l, 0, _, h => by
    have hb : b = false := by simpa using h
    subst hb
    simp [cnt]
  | b :: l, i + 1, h, hf => by
    have := cnt_set_true l i (by simpa using h) (by simpa using hf)
    simp only [cnt, List.set_cons_succ, List.count_cons] at *
    omega
theorem cnt_set_false : ∀ (l : List Bool) (i : Nat), l.getD i false = true → cnt (l.set i false) + 1 = cnt l
  | [], i, h => by simp at h
  | b :: l, 0, h => by
    have hb : b = true := by simpa using h
    subst hb
    simp [cnt]
  | b :: l, i + 1, h => by
    have := cnt_set_false l i (by simpa using h)
    simp only [cnt, List.set_cons_succ, List.count_cons] at *
    omega
theorem getD_lt {l : List Bool} {i : Nat} (h : l.getD i false = true) : i < l.length := by
  rcases Nat.lt_or_ge i l.length with q | q
  · exact q
  · rw [List.getD_eq_getElem?_getD, List.getElem?_eq_none q] at h; cases h
theorem getD_set (l : List Bool) (i j : Nat) (b : Bool) (hi : i < l.length) : (l.set i b).getD j false = if j = i then b else l.getD j false := by
  rw [List.getD_eq_getElem?_getD, List.getElem?_set, List.getD_eq_getElem?_getD]
  by_cases h : j = i
  · subst h; simp [hi]
  · rw [if_neg (fun e => h e.symm), if_neg h]
theorem getD_setN (l : List Nat) (i j : Nat) (b : Nat) (hi : i < l.length) : (l.set i b).getD j 0 = if j = i then b else l.getD j 0 := by
  rw [List.getD_eq_getElem?_getD, List.getElem?_set, List.getD_eq_getElem?_getD]
  by_cases h : j = i
  · subst h; simp [hi]
  · rw [if_neg (fun e => h e.symm), if_neg h]
structure Bits (ws : List Nat) (l : List Bool) : Prop where
  len : ws.length = (l.length + 63) / 64
  small : ∀ k, ws.getD k 0 < 18446744073709551616
  bit : ∀ i, (ws.getD (i / 64) 0).testBit (i % 64) = l.getD i false
theorem Bits.zero (n : Nat) : Bits (List.replicate ((n + 63) / 64) 0) (List.replicate n false) := by
  have h : ∀ k m, (List.replicate m (0 : Nat)).getD k 0 = 0 := fun k m => by
    rw [List.getD_eq_getElem?_getD, List.getElem?_replicate]; split <;> rfl
  refine ⟨by simp, fun k => by rw [h]; decide, fun i => ?_⟩
  rw [h, Nat.zero_testBit, List.getD_eq_getElem?_getD, List.getElem?_replicate]; split <;> rfl
theorem Bits.in_ {ws : List Nat} {l : List Bool} (h : Bits ws l) {i : Nat} (hi : i < l.length) : i / 64 < ws.length := by
  have := h.len; omega
theorem Bits.put {ws : List Nat} {l : List Bool} (h : Bits ws l) {i x : Nat} {b : Bool} (hi : i < l.length) (hx : x < 18446744073709551616) (hb : x.testBit (i % 64) = b) (ho : ∀ j, j < 64 → j ≠ i % 64 → x.testBit j = (ws.getD (i / 64) 0).testBit j) : Bits (ws.set (i / 64) x) (l.set i b) := by
  have hin := h.in_ hi
  refine ⟨by rw [List.length_set, List.length_set]; exact h.len, fun k => ?_, fun j => ?_⟩
  · rw [getD_setN _ _ _ _ hin]; split
    · exact hx
    · exact h.small k
  · rw [getD_setN _ _ _ _ hin, getD_set _ _ _ _ hi]
    by_cases e : j / 64 = i / 64
    · rw [if_pos e]
      by_cases e2 : j = i
      · rw [if_pos e2, e2]; exact hb
      · rw [if_neg e2, ho _ (Nat.mod_lt _ (by decide)) (by omega), ← e]; exact h.bit j
    · rw [if_neg e, if_neg (fun q => e (by rw [q]))]; exact h.bit j
def orW (a i : Nat) : Nat := a ||| 2 ^ i
def clrW (a i : Nat) : Nat := a &&& (18446744073709551615 - 2 ^ i)
theorem pow_lt64 {i : Nat} (h : i < 64) : 2 ^ i < 18446744073709551616 := by
  have := Nat.pow_lt_pow_right (a := 2) (m := i) (n := 64) (by decide) h
  simpa using this
theorem orW_lt (a i : Nat) (ha : a < 18446744073709551616) (hi : i < 64) : orW a i < 18446744073709551616 := Nat.or_lt_two_pow (n := 64) ha (pow_lt64 hi)
theorem clrW_lt (a i : Nat) (ha : a < 18446744073709551616) : clrW a i < 18446744073709551616 := Nat.lt_of_le_of_lt Nat.and_le_left ha
theorem clr_bit (i j : Nat) (hi : i < 64) : (18446744073709551615 - 2 ^ i).testBit j = (decide (j < 64) && !decide (i = j)) := by
  have h := Nat.testBit_two_pow_sub_succ (x := 2 ^ i) (n := 64) (by simpa using pow_lt64 hi) j
  rw [show 2 ^ 64 - (2 ^ i + 1) = 18446744073709551615 - 2 ^ i from by omega, Nat.testBit_two_pow] at h
  exact h
theorem Bits.take {ws : List Nat} {l : List Bool} (h : Bits ws l) {i : Nat} (hi : i < l.length) : Bits (ws.set (i / 64) (orW (ws.getD (i / 64) 0) (i % 64))) (l.set i true) := by
  refine h.put hi (orW_lt _ _ (h.small _) (Nat.mod_lt _ (by decide))) ?_ (fun j hj hne => ?_)
  · unfold orW; rw [Nat.testBit_or, Nat.testBit_two_pow]; simp
  · unfold orW; rw [Nat.testBit_or, Nat.testBit_two_pow]; simp [Ne.symm hne]
theorem Bits.give {ws : List Nat} {l : List Bool} (h : Bits ws l) {i : Nat} (hi : i < l.length) : Bits (ws.set (i / 64) (clrW (ws.getD (i / 64) 0) (i % 64))) (l.set i false) := by
  refine h.put hi (clrW_lt _ _ (h.small _)) ?_ (fun j hj hne => ?_)
  · unfold clrW; rw [Nat.testBit_and, clr_bit _ _ (Nat.mod_lt _ (by decide))]; simp
  · unfold clrW; rw [Nat.testBit_and, clr_bit _ _ (Nat.mod_lt _ (by decide))]; simp [Ne.symm hne, hj]
theorem ctz_is (x z : Nat) (h0 : x ≠ 0) (h : x < 18446744073709551616) : Go.Lib.ctz 64 x < 64 ∧ x.testBit (Go.Lib.ctz 64 x) = true ∧ ∀ j, j < Go.Lib.ctz 64 x → x.testBit j = false := by
  have hs := Go.Lib.ctzFrom_spec 64 x (by omega) (by simpa using h)
  have hu : Go.Lib.ctz 64 x = Go.Lib.ctzFrom 64 x := by unfold Go.Lib.ctz; rw [if_neg h0]
  rw [hu]
  obtain ⟨m, hm, hk⟩ := hs
  generalize Go.Lib.ctzFrom 64 x = t at hm hk
  subst hm
  refine ⟨hk, ?_, fun j hj => ?_⟩
  · rw [Nat.testBit_two_pow_mul]; simp [Nat.testBit_zero]
  · rw [Nat.testBit_two_pow_mul]; simp [Nat.not_le.2 hj]
theorem comp_bit (x j : Nat) (h : x < 18446744073709551616) : (18446744073709551615 ^^^ x).testBit j = (decide (j < 64) ^^ x.testBit j) := by
  rw [Nat.testBit_xor, show (18446744073709551615 : Nat) = 2 ^ 64 - 1 from rfl, Nat.testBit_two_pow_sub_one]
theorem comp_ne {x : Nat} (h : x < 18446744073709551616) (hne : x ≠ 18446744073709551615) : 18446744073709551615 ^^^ x ≠ 0 := by
  intro e
  apply hne
  apply Nat.eq_of_testBit_eq
  intro j
  have := congrArg (fun n => n.testBit j) e
  simp only [comp_bit x j h, Nat.zero_testBit] at this
  rw [show (18446744073709551615 : Nat) = 2 ^ 64 - 1 from rfl, Nat.testBit_two_pow_sub_one]
  revert this
  cases x.testBit j <;> cases decide (j < 64) <;> simp
theorem ones_bit {x : Nat} (h : x = 18446744073709551615) (j : Nat) (hj : j < 64) : x.testBit j = true := by
  rw [h, show (18446744073709551615 : Nat) = 2 ^ 64 - 1 from rfl, Nat.testBit_two_pow_sub_one]; simp [hj]
theorem Bits.free {ws : List Nat} {l : List Bool} (h : Bits ws l) {k : Nat} (hb : ∀ j, j < k → ws.getD j 0 = 18446744073709551615) (hk : ws.getD k 0 ≠ 18446744073709551615) : fz l = 64 * k + Go.Lib.ctz 64 (18446744073709551615 ^^^ ws.getD k 0) := by
  have hs := h.small k
  obtain ⟨c1, c2, c3⟩ := ctz_is (18446744073709551615 ^^^ ws.getD k 0) 0 (comp_ne hs hk) (Nat.xor_lt_two_pow (n := 64) (by decide) hs)
  generalize Go.Lib.ctz 64 (18446744073709551615 ^^^ ws.getD k 0) = z at c1 c2 c3
  apply fz_is
  · intro i hi
    rw [← h.bit i]
    by_cases hlt : i < 64 * k
    · exact ones_bit (hb (i / 64) (by omega)) _ (Nat.mod_lt _ (by decide))
    · have e : i / 64 = k := by omega
      have := c3 (i % 64) (by omega)
      rw [comp_bit _ _ hs] at this
      rw [e]
      have h64 : i % 64 < 64 := Nat.mod_lt _ (by decide)
      simpa [h64] using this
  · rw [← h.bit]
    rw [show (64 * k + z) / 64 = k from by omega, show (64 * k + z) % 64 = z from by omega]
    rw [comp_bit _ _ hs] at c2
    simpa [c1] using c2
theorem Bits.none_ {ws : List Nat} {l : List Bool} (h : Bits ws l) (hb : ∀ j, j < ws.length → ws.getD j 0 = 18446744073709551615) : fz l = l.length := by
  apply fz_is
  · intro i hi
    rw [← h.bit i]
    exact ones_bit (hb (i / 64) (h.in_ hi)) _ (Nat.mod_lt _ (by decide))
  · rw [List.getD_eq_getElem?_getD, List.getElem?_eq_none (Nat.le_refl _)]; rfl
theorem xor64 (a b : Nat) (ha : a < 18446744073709551616) (hb : b < 18446744073709551616) : Go.bits .xor .u64 (a : Int) (b : Int) = ((a ^^^ b : Nat) : Int) := by
  have hx : a ^^^ b < 2 ^ 64 := Nat.xor_lt_two_pow ha hb
  have h1 : (BitVec.ofInt 64 (a : Int)).toNat = a := by
    rw [BitVec.ofInt_natCast, BitVec.toNat_ofNat]; exact Nat.mod_eq_of_lt ha
  have h2 : (BitVec.ofInt 64 (b : Int)).toNat = b := by
    rw [BitVec.ofInt_natCast, BitVec.toNat_ofNat]; exact Nat.mod_eq_of_lt hb
  show IntKind.u64.wrap ((BitVec.ofInt 64 (a : Int) ^^^ BitVec.ofInt 64 (b : Int)).toNat : Int) = _
  rw [BitVec.toNat_xor, h1, h2, u64n _ hx]
theorem andNot64 (a b : Nat) (ha : a < 18446744073709551616) (hb : b < 18446744073709551616) : Go.bits .andNot .u64 (a : Int) (b : Int) = ((a &&& (18446744073709551615 - b) : Nat) : Int) := by
  have h1 : (BitVec.ofInt 64 (a : Int)).toNat = a := by
    rw [BitVec.ofInt_natCast, BitVec.toNat_ofNat]; exact Nat.mod_eq_of_lt ha
  have h2 : (BitVec.ofInt 64 (b : Int)).toNat = b := by
    rw [BitVec.ofInt_natCast, BitVec.toNat_ofNat]; exact Nat.mod_eq_of_lt hb
  show IntKind.u64.wrap ((BitVec.ofInt 64 (a : Int) &&& ~~~ BitVec.ofInt 64 (b : Int)).toNat : Int) = _
  rw [BitVec.toNat_and, BitVec.toNat_not, h1, h2, show 2 ^ 64 - 1 - b = 18446744073709551615 - b from rfl, u64n _ (Nat.lt_of_le_of_lt Nat.and_le_left ha)]
theorem shl_one (s : Nat) (hs : s < 64) : shl .u64 1 (s : Int) = ((2 ^ s : Nat) : Int) := by
  have e : IntKind.bits .u64 = 64 := rfl
  have q : shl .u64 1 (s : Int) = IntKind.u64.wrap (((2 ^ s : Nat) : Int)) := by
    unfold shl
    rw [Int.toNat_natCast, e, Nat.min_eq_left (by omega), Int.one_mul, Int.natCast_pow]; rfl
  rw [q, u64n _ (pow_lt64 hs)]
theorem shr_eq (x i : Nat) (hi : i ≤ 64) : shr .u64 (x : Int) (i : Int) = ((x / 2 ^ i : Nat) : Int) := by
  have e : IntKind.bits .u64 = 64 := rfl
  unfold shr
  rw [Int.toNat_natCast, e, Nat.min_eq_left hi, Int.natCast_ediv, Int.natCast_pow]; rfl
theorem tz_eq (x : Nat) (h0 : x ≠ 0) (h : x < 18446744073709551616) : bits_TrailingZeros64.f (x : Int) = some ((Go.Lib.ctz 64 x : Nat) : Int) := by
  obtain ⟨hlow, hk⟩ := Go.Lib.lowest_bit 64 x h0 h
  obtain ⟨hi, htab⟩ := Go.Lib.deBruijn64_at _ hk
  unfold bits_TrailingZeros64.f
  rw [if_neg (by omega)]
  have key : tzAt (x : Int) = _ := tz64_key x _ h h0 hlow
  rw [key, Int.toNat_natCast, htab]
theorem Bits.has {ws : List Nat} {l : List Bool} (h : Bits ws l) (i : Nat) : Go.bits .and .u64 (shr .u64 ((ws.getD (i / 64) 0 : Nat) : Int) ((i % 64 : Nat) : Int)) 1 = if l.getD i false = true then 1 else 0 := by
  have hs := h.small (i / 64)
  rw [shr_eq _ _ (Nat.le_of_lt (Nat.mod_lt _ (by decide)))]
  have h1 := bits_and_u64_nat (ws.getD (i / 64) 0 / 2 ^ (i % 64)) 1 (Nat.lt_of_le_of_lt (Nat.div_le_self _ _) hs) (by decide)
  rw [show ((1 : Nat) : Int) = 1 from rfl] at h1
  rw [h1, ← h.bit i, Nat.and_one_is_mod, Nat.testBit_eq_decide_div_mod_eq]
  generalize ws.getD (i / 64) 0 / 2 ^ (i % 64) = z
  rcases Nat.mod_two_eq_zero_or_one z with e | e <;> rw [e] <;> rfl
end Go.Proofs.YtmfacoccojenlaaDoor.N
