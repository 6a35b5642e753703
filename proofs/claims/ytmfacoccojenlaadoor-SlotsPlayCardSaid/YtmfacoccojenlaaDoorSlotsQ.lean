-- Cut for this claim by a program (wip/prune.py) out of the texts that its bench laid or wrote
import Derived.Test.YtmfacoccojenlaaDoorFBitsA
import Derived.Shelf.Spec.TrailingZeros
import Derived.Laws.Bits64b
section
namespace Go.Proofs.YtmfacoccojenlaaDoor.N
open Go Go.RowKit Go.Proofs.YtmfacoccojenlaaDoor.F Go.Proofs.YtmfacoccojenlaaDoorW.PrintWords Go.Proofs.YtmfacoccojenlaaDoorW.PrintLast Go.Proofs.YtmfacoccojenlaaDoorW.PrintMore
set_option linter.unusedSimpArgs false
set_option linter.unusedVariables false
def fz : List Bool → Nat
  | [] => 0
  | false :: _ => 0
  | true :: l => fz l + 1
theorem fz_le : ∀ l, fz l ≤ l.length
  | [] => Nat.le_refl _
  | false :: l => Nat.zero_le _
  | true :: l => Nat.succ_le_succ (fz_le l)
theorem fz_true : ∀ (l : List Bool) (i : Nat), i < fz l → l.getD i false = true
  | [], i, h => absurd h (Nat.not_lt_zero _)
  | false :: l, i, h => absurd h (Nat.not_lt_zero _)
  | true :: l, 0, _ => rfl
  | true :: l, i + 1, h => by simpa using fz_true l i (Nat.lt_of_succ_lt_succ h)
theorem fz_false : ∀ (l : List Bool), l.getD (fz l) false = false
  | [] => rfl
  | false :: l => rfl
  | true :: l => by simpa [fz] using fz_false l
theorem fz_is {l : List Bool} {p : Nat} (h1 : ∀ i, i < p → l.getD i false = true) (h2 : l.getD p false = false) : fz l = p := by
  rcases Nat.lt_trichotomy (fz l) p with h | h | h
  · have := h1 _ h; rw [fz_false] at this; cases this
  · exact h
  · have := fz_true l p h; rw [h2] at this; cases this
def cnt (l : List Bool) : Nat := l.count true
theorem cnt_le (l : List Bool) : cnt l ≤ l.length := List.count_le_length
theorem cnt_full : ∀ l : List Bool, cnt l = l.length ↔ fz l = l.length
  | [] => by simp [cnt, fz]
  | false :: l => by
    have := cnt_le l
    simp only [cnt, List.length_cons, fz] at *
    rw [List.count_cons_of_ne (by decide)]
    omega
  | true :: l => by
    have := cnt_full l
    simp only [cnt, List.length_cons, fz] at *
    rw [List.count_cons_self]
    omega
theorem cnt_set_true : ∀ (l : List Bool) (i : Nat), i < l.length → l.getD i false = false → cnt (l.set i true) = cnt l + 1
  | [], i, h, _ => absurd h (Nat.not_lt_zero _)
  | b :: l, 0, _, h => by
    have hb : b = false := by simpa using h
    subst hb
    simp [cnt]
  | b :: l, i + 1, h, hf => by
    have := cnt_set_true l i (by simpa using h) (by simpa using hf)
    simp only [cnt, List.set_cons_succ, List.count_cons] at *
    omega
theorem cnt_set_false : ∀ (l : List Bool) (i : Nat), l.getD i false = true → cnt (l.set i false) + 1 = cnt l
  | [], i, h => by simp at h
  | b :: l, 0, h => by
    have hb : b = true := by simpa using h
    subst hb
    simp [cnt]
  | b :: l, i + 1, h => by
    have := cnt_set_false l i (by simpa using h)
    simp only [cnt, List.set_cons_succ, List.count_cons] at *
    omega
theorem getD_lt {l : List Bool} {i : Nat} (h : l.getD i false = true) : i < l.length := by
  rcases Nat.lt_or_ge i l.length with q | q
  · exact q
  · rw [List.getD_eq_getElem?_getD, List.getElem?_eq_none q] at h; cases h
theorem getD_set (l : List Bool) (i j : Nat) (b : Bool) (hi : i < l.length) : (l.set i b).getD j false = if j = i then b else l.getD j false := by
  rw [List.getD_eq_getElem?_getD, List.getElem?_set, List.getD_eq_getElem?_getD]
  by_cases h : j = i
  · subst h; simp [hi]
  · rw [if_neg (fun e => h e.symm), if_neg h]
theorem getD_setN (l : List Nat) (i j : Nat) (b : Nat) (hi : i < l.length) : (l.set i b).getD j 0 = if j = i then b else l.getD j 0 := by
  rw [List.getD_eq_getElem?_getD, List.getElem?_set, List.getD_eq_getElem?_getD]
  by_cases h : j = i
  · subst h; simp [hi]
  · rw [if_neg (fun e => h e.symm), if_neg h]
structure Bits (ws : List Nat) (l : List Bool) : Prop where
  len : ws.length = (l.length + 63) / 64
  small : ∀ k, ws.getD k 0 < 18446744073709551616
  bit : ∀ i, (ws.getD (i / 64) 0).testBit (i % 64) = l.getD i false
theorem Bits.zero (n : Nat) : Bits (List.replicate ((n + 63) / 64) 0) (List.replicate n false) := by
  have h : ∀ k m, (List.replicate m (0 : Nat)).getD k 0 = 0 := fun k m => by
    rw [List.getD_eq_getElem?_getD, List.getElem?_replicate]; split <;> rfl
  refine ⟨by simp, fun k => by rw [h]; decide, fun i => ?_⟩
  rw [h, Nat.zero_testBit, List.getD_eq_getElem?_getD, List.getElem?_replicate]; split <;> rfl
theorem Bits.in_ {ws : List Nat} {l : List Bool} (h : Bits ws l) {i : Nat} (hi : i < l.length) : i / 64 < ws.length := by
  have := h.len; omega
theorem Bits.put {ws : List Nat} {l : List Bool} (h : Bits ws l) {i x : Nat} {b : Bool} (hi : i < l.length) (hx : x < 18446744073709551616) (hb : x.testBit (i % 64) = b) (ho : ∀ j, j < 64 → j ≠ i % 64 → x.testBit j = (ws.getD (i / 64) 0).testBit j) : Bits (ws.set (i / 64) x) (l.set i b) := by
  have hin := h.in_ hi
  refine ⟨by rw [List.length_set, List.length_set]; exact h.len, fun k => ?_, fun j => ?_⟩
  · rw [getD_setN _ _ _ _ hin]; split
    · exact hx
    · exact h.small k
  · rw [getD_setN _ _ _ _ hin, getD_set _ _ _ _ hi]
    by_cases e : j / 64 = i / 64
    · rw [if_pos e]
      by_cases e2 : j = i
      · rw [if_pos e2, e2]; exact hb
      · rw [if_neg e2, ho _ (Nat.mod_lt _ (by decide)) (by omega), ← e]; exact h.bit j
    · rw [if_neg e, if_neg (fun q => e (by rw [q]))]; exact h.bit j
def orW (a i : Nat) : Nat := a ||| 2 ^ i
def clrW (a i : Nat) : Nat := a &&& (18446744073709551615 - 2 ^ i)
theorem pow_lt64 {i : Nat} (h : i < 64) : 2 ^ i < 18446744073709551616 := by
  have := Nat.pow_lt_pow_right (a := 2) (m := i) (n := 64) (by decide) h
  simpa using this
theorem orW_lt (a i : Nat) (ha : a < 18446744073709551616) (hi : i < 64) : orW a i < 18446744073709551616 := Nat.or_lt_two_pow (n := 64) ha (pow_lt64 hi)
theorem clrW_lt (a i : Nat) (ha : a < 18446744073709551616) : clrW a i < 18446744073709551616 := Nat.lt_of_le_of_lt Nat.and_le_left ha
theorem clr_bit (i j : Nat) (hi : i < 64) : (18446744073709551615 - 2 ^ i).testBit j = (decide (j < 64) && !decide (i = j)) := by
  have h := Nat.testBit_two_pow_sub_succ (x := 2 ^ i) (n := 64) (by simpa using pow_lt64 hi) j
  rw [show 2 ^ 64 - (2 ^ i + 1) = 18446744073709551615 - 2 ^ i from by omega, Nat.testBit_two_pow] at h
  exact h
theorem Bits.take {ws : List Nat} {l : List Bool} (h : Bits ws l) {i : Nat} (hi : i < l.length) : Bits (ws.set (i / 64) (orW (ws.getD (i / 64) 0) (i % 64))) (l.set i true) := by
  refine h.put hi (orW_lt _ _ (h.small _) (Nat.mod_lt _ (by decide))) ?_ (fun j hj hne => ?_)
  · unfold orW; rw [Nat.testBit_or, Nat.testBit_two_pow]; simp
  · unfold orW; rw [Nat.testBit_or, Nat.testBit_two_pow]; simp [Ne.symm hne]
theorem Bits.give {ws : List Nat} {l : List Bool} (h : Bits ws l) {i : Nat} (hi : i < l.length) : Bits (ws.set (i / 64) (clrW (ws.getD (i / 64) 0) (i % 64))) (l.set i false) := by
  refine h.put hi (clrW_lt _ _ (h.small _)) ?_ (fun j hj hne => ?_)
  · unfold clrW; rw [Nat.testBit_and, clr_bit _ _ (Nat.mod_lt _ (by decide))]; simp
  · unfold clrW; rw [Nat.testBit_and, clr_bit _ _ (Nat.mod_lt _ (by decide))]; simp [Ne.symm hne, hj]
theorem ctz_is (x z : Nat) (h0 : x ≠ 0) (h : x < 18446744073709551616) : Go.Lib.ctz 64 x < 64 ∧ x.testBit (Go.Lib.ctz 64 x) = true ∧ ∀ j, j < Go.Lib.ctz 64 x → x.testBit j = false := by
  have hs := Go.Lib.ctzFrom_spec 64 x (by omega) (by simpa using h)
  have hu : Go.Lib.ctz 64 x = Go.Lib.ctzFrom 64 x := by unfold Go.Lib.ctz; rw [if_neg h0]
  rw [hu]
  obtain ⟨m, hm, hk⟩ := hs
  generalize Go.Lib.ctzFrom 64 x = t at hm hk
  subst hm
  refine ⟨hk, ?_, fun j hj => ?_⟩
  · rw [Nat.testBit_two_pow_mul]; simp [Nat.testBit_zero]
  · rw [Nat.testBit_two_pow_mul]; simp [Nat.not_le.2 hj]
theorem comp_bit (x j : Nat) (h : x < 18446744073709551616) : (18446744073709551615 ^^^ x).testBit j = (decide (j < 64) ^^ x.testBit j) := by
  rw [Nat.testBit_xor, show (18446744073709551615 : Nat) = 2 ^ 64 - 1 from rfl, Nat.testBit_two_pow_sub_one]
theorem comp_ne {x : Nat} (h : x < 18446744073709551616) (hne : x ≠ 18446744073709551615) : 18446744073709551615 ^^^ x ≠ 0 := by
  intro e
  apply hne
  apply Nat.eq_of_testBit_eq
  intro j
  have := congrArg (fun n => n.testBit j) e
  simp only [comp_bit x j h, Nat.zero_testBit] at this
  rw [show (18446744073709551615 : Nat) = 2 ^ 64 - 1 from rfl, Nat.testBit_two_pow_sub_one]
  revert this
  cases x.testBit j <;> cases decide (j < 64) <;> simp
theorem ones_bit {x : Nat} (h : x = 18446744073709551615) (j : Nat) (hj : j < 64) : x.testBit j = true := by
  rw [h, show (18446744073709551615 : Nat) = 2 ^ 64 - 1 from rfl, Nat.testBit_two_pow_sub_one]; simp [hj]
theorem Bits.free {ws : List Nat} {l : List Bool} (h : Bits ws l) {k : Nat} (hb : ∀ j, j < k → ws.getD j 0 = 18446744073709551615) (hk : ws.getD k 0 ≠ 18446744073709551615) : fz l = 64 * k + Go.Lib.ctz 64 (18446744073709551615 ^^^ ws.getD k 0) := by
  have hs := h.small k
  obtain ⟨c1, c2, c3⟩ := ctz_is (18446744073709551615 ^^^ ws.getD k 0) 0 (comp_ne hs hk) (Nat.xor_lt_two_pow (n := 64) (by decide) hs)
  generalize Go.Lib.ctz 64 (18446744073709551615 ^^^ ws.getD k 0) = z at c1 c2 c3
  apply fz_is
  · intro i hi
    rw [← h.bit i]
    by_cases hlt : i < 64 * k
    · exact ones_bit (hb (i / 64) (by omega)) _ (Nat.mod_lt _ (by decide))
    · have e : i / 64 = k := by omega
      have := c3 (i % 64) (by omega)
      rw [comp_bit _ _ hs] at this
      rw [e]
      have h64 : i % 64 < 64 := Nat.mod_lt _ (by decide)
      simpa [h64] using this
  · rw [← h.bit]
    rw [show (64 * k + z) / 64 = k from by omega, show (64 * k + z) % 64 = z from by omega]
    rw [comp_bit _ _ hs] at c2
    simpa [c1] using c2
theorem Bits.none_ {ws : List Nat} {l : List Bool} (h : Bits ws l) (hb : ∀ j, j < ws.length → ws.getD j 0 = 18446744073709551615) : fz l = l.length := by
  apply fz_is
  · intro i hi
    rw [← h.bit i]
    exact ones_bit (hb (i / 64) (h.in_ hi)) _ (Nat.mod_lt _ (by decide))
  · rw [List.getD_eq_getElem?_getD, List.getElem?_eq_none (Nat.le_refl _)]; rfl
theorem xor64 (a b : Nat) (ha : a < 18446744073709551616) (hb : b < 18446744073709551616) : Go.bits .xor .u64 (a : Int) (b : Int) = ((a ^^^ b : Nat) : Int) := by
  have hx : a ^^^ b < 2 ^ 64 := Nat.xor_lt_two_pow ha hb
  have h1 : (BitVec.ofInt 64 (a : Int)).toNat = a := by
    rw [BitVec.ofInt_natCast, BitVec.toNat_ofNat]; exact Nat.mod_eq_of_lt ha
  have h2 : (BitVec.ofInt 64 (b : Int)).toNat = b := by
    rw [BitVec.ofInt_natCast, BitVec.toNat_ofNat]; exact Nat.mod_eq_of_lt hb
  show IntKind.u64.wrap ((BitVec.ofInt 64 (a : Int) ^^^ BitVec.ofInt 64 (b : Int)).toNat : Int) = _
  rw [BitVec.toNat_xor, h1, h2, u64n _ hx]
theorem andNot64 (a b : Nat) (ha : a < 18446744073709551616) (hb : b < 18446744073709551616) : Go.bits .andNot .u64 (a : Int) (b : Int) = ((a &&& (18446744073709551615 - b) : Nat) : Int) := by
  have h1 : (BitVec.ofInt 64 (a : Int)).toNat = a := by
    rw [BitVec.ofInt_natCast, BitVec.toNat_ofNat]; exact Nat.mod_eq_of_lt ha
  have h2 : (BitVec.ofInt 64 (b : Int)).toNat = b := by
    rw [BitVec.ofInt_natCast, BitVec.toNat_ofNat]; exact Nat.mod_eq_of_lt hb
  show IntKind.u64.wrap ((BitVec.ofInt 64 (a : Int) &&& ~~~ BitVec.ofInt 64 (b : Int)).toNat : Int) = _
  rw [BitVec.toNat_and, BitVec.toNat_not, h1, h2, show 2 ^ 64 - 1 - b = 18446744073709551615 - b from rfl, u64n _ (Nat.lt_of_le_of_lt Nat.and_le_left ha)]
theorem shl_one (s : Nat) (hs : s < 64) : shl .u64 1 (s : Int) = ((2 ^ s : Nat) : Int) := by
  have e : IntKind.bits .u64 = 64 := rfl
  have q : shl .u64 1 (s : Int) = IntKind.u64.wrap (((2 ^ s : Nat) : Int)) := by
    unfold shl
    rw [Int.toNat_natCast, e, Nat.min_eq_left (by omega), Int.one_mul, Int.natCast_pow]; rfl
  rw [q, u64n _ (pow_lt64 hs)]
theorem shr_eq (x i : Nat) (hi : i ≤ 64) : shr .u64 (x : Int) (i : Int) = ((x / 2 ^ i : Nat) : Int) := by
  have e : IntKind.bits .u64 = 64 := rfl
  unfold shr
  rw [Int.toNat_natCast, e, Nat.min_eq_left hi, Int.natCast_ediv, Int.natCast_pow]; rfl
theorem tz_eq (x : Nat) (h0 : x ≠ 0) (h : x < 18446744073709551616) : bits_TrailingZeros64.f (x : Int) = some ((Go.Lib.ctz 64 x : Nat) : Int) := by
  obtain ⟨hlow, hk⟩ := Go.Lib.lowest_bit 64 x h0 h
  obtain ⟨hi, htab⟩ := Go.Lib.deBruijn64_at _ hk
  unfold bits_TrailingZeros64.f
  rw [if_neg (by omega)]
  have key : tzAt (x : Int) = _ := tz64_key x _ h h0 hlow
  rw [key, Int.toNat_natCast, htab]
theorem Bits.has {ws : List Nat} {l : List Bool} (h : Bits ws l) (i : Nat) : Go.bits .and .u64 (shr .u64 ((ws.getD (i / 64) 0 : Nat) : Int) ((i % 64 : Nat) : Int)) 1 = if l.getD i false = true then 1 else 0 := by
  have hs := h.small (i / 64)
  rw [shr_eq _ _ (Nat.le_of_lt (Nat.mod_lt _ (by decide)))]
  have h1 := bits_and_u64_nat (ws.getD (i / 64) 0 / 2 ^ (i % 64)) 1 (Nat.lt_of_le_of_lt (Nat.div_le_self _ _) hs) (by decide)
  rw [show ((1 : Nat) : Int) = 1 from rfl] at h1
  rw [h1, ← h.bit i, Nat.and_one_is_mod, Nat.testBit_eq_decide_div_mod_eq]
  generalize ws.getD (i / 64) 0 / 2 ^ (i % 64) = z
  rcases Nat.mod_two_eq_zero_or_one z with e | e <;> rw [e] <;> rfl
end Go.Proofs.YtmfacoccojenlaaDoor.N
end
section
namespace Go.Proofs.YtmfacoccojenlaaDoor.N
open Go Go.RowKit Go.Proofs.YtmfacoccojenlaaDoor.F Go.Proofs.YtmfacoccojenlaaDoorW.PrintWords Go.Proofs.YtmfacoccojenlaaDoorW.PrintLast Go.Proofs.YtmfacoccojenlaaDoorW.PrintMore
set_option linter.unusedSimpArgs false
set_option linter.unusedVariables false
def bitsL (w : Nat) : List Nat := (List.range 64).filter fun j => w.testBit j
def wordI (k w : Nat) : List Int := (bitsL w).map fun (j : Nat) => 64 * (k : Int) + (j : Int)
def seqI (k : Nat) : List Nat → List Int
  | [] => []
  | w :: ws => wordI k w ++ seqI (k + 1) ws
theorem filter_first (n t : Nat) (p : Nat → Bool) (ht : t < n) (h1 : ∀ j, j < t → p j = false) (h2 : p t = true) : (List.range n).filter p = t :: (List.range n).filter fun j => p j && !decide (j = t) := by
  obtain ⟨m, rfl⟩ : ∃ m, n = t + (1 + m) := ⟨n - t - 1, by omega⟩
  rw [List.range_add, List.range_add, List.filter_append, List.filter_append, List.map_append, List.filter_append, List.filter_append]
  have e1 : (List.range t).filter p = [] := List.filter_eq_nil_iff.2 (fun j hj => by rw [h1 j (List.mem_range.1 hj)]; decide)
  have e2 : ((List.range t).filter fun j => p j && !decide (j = t)) = [] := List.filter_eq_nil_iff.2 (fun j hj => by rw [h1 j (List.mem_range.1 hj), Bool.false_and]; decide)
  have e3 : ((List.range 1).map (t + ·)).filter p = [t] := by simp [List.range_succ, h2]
  have e4 : (((List.range 1).map (t + ·)).filter fun j => p j && !decide (j = t)) = [] := by simp [List.range_succ]
  rw [e1, e2, e3, e4, List.nil_append, List.nil_append, List.nil_append, List.singleton_append]
  congr 1
  apply List.filter_congr
  intro j hj
  simp only [List.map_map, List.mem_map] at hj
  obtain ⟨a, _, rfl⟩ := hj
  have : decide (t + (1 + a) = t) = false := decide_eq_false (by omega)
  simp only [Function.comp, this, Bool.not_false, Bool.and_true]
theorem bits_next (w : Nat) (h0 : w ≠ 0) (h : w < 18446744073709551616) : bitsL w = Go.Lib.ctz 64 w :: bitsL (w &&& (w - 1)) ∧ Go.Lib.ctz 64 w < 64 ∧ w &&& (w - 1) < w := by
  obtain ⟨c1, c2, c3⟩ := ctz_is w 0 h0 h
  have hs := Go.Lib.ctzFrom_spec 64 w (by omega) (by simpa using h)
  have hu : Go.Lib.ctz 64 w = Go.Lib.ctzFrom 64 w := by unfold Go.Lib.ctz; rw [if_neg h0]
  rw [hu] at c1 c2 c3 ⊢
  obtain ⟨m, hm, _⟩ := hs
  generalize Go.Lib.ctzFrom 64 w = t at hm c1 c2 c3
  have hp : 0 < 2 ^ t := Nat.two_pow_pos t
  have w0 : w = 2 ^ (t + 1) * m + 2 ^ t := by rw [hm, Nat.pow_succ, Nat.mul_add, Nat.mul_assoc, Nat.mul_one]
  have w1 : w - 1 = 2 ^ (t + 1) * m + (2 ^ t - 1) := by omega
  have hb0 : 2 ^ t < 2 ^ (t + 1) := by rw [Nat.pow_succ]; omega
  have hb : ∀ j, (w &&& (w - 1)).testBit j = (w.testBit j && !decide (j = t)) := by
    intro j
    rw [Nat.testBit_and, w1]
    rw [Nat.testBit_two_pow_mul_add m (by omega : 2 ^ t - 1 < 2 ^ (t + 1))]
    rw [w0, Nat.testBit_two_pow_mul_add m hb0]
    by_cases hj : j < t + 1
    · rw [if_pos hj, if_pos hj, Nat.testBit_two_pow, Nat.testBit_two_pow_sub_one]
      by_cases e : j = t
      · subst e; simp
      · have : decide (t = j) = false := decide_eq_false (fun q => e q.symm)
        simp [this]
    · rw [if_neg hj, if_neg hj]
      have : decide (j = t) = false := decide_eq_false (by omega)
      simp [this]
  refine ⟨?_, c1, ?_⟩
  · unfold bitsL
    rw [filter_first 64 t _ c1 c3 c2]
    congr 1
    exact List.filter_congr (fun j _ => (hb j).symm)
  · have h2 : w &&& (w - 1) ≤ w - 1 := Nat.and_le_right
    omega
theorem bits_zero : bitsL 0 = [] := by
  unfold bitsL
  exact List.filter_eq_nil_iff.2 (fun j _ => by rw [Nat.zero_testBit]; decide)
theorem word_next (k w : Nat) (h0 : w ≠ 0) (h : w < 18446744073709551616) : wordI k w = (64 * (k : Int) + (Go.Lib.ctz 64 w : Nat)) :: wordI k (w &&& (w - 1)) := by
  unfold wordI
  rw [(bits_next w h0 h).1, List.map_cons]
theorem word_zero (k : Nat) : wordI k 0 = [] := by unfold wordI; rw [bits_zero]; rfl
theorem seq_at : ∀ (ws : List Nat) (k : Nat), k < ws.length → ∀ b, seqI (b + k) (ws.drop k) = wordI (b + k) (ws.getD k 0) ++ seqI (b + (k + 1)) (ws.drop (k + 1))
  | [], k, h, _ => absurd h (Nat.not_lt_zero _)
  | w :: ws, 0, _, b => by simp [seqI]
  | w :: ws, k + 1, h, b => by
    have := seq_at ws k (by simpa using h) (b + 1)
    rw [show b + (k + 1) = b + 1 + k from by omega, show b + (k + 1 + 1) = b + 1 + (k + 1) from by omega]
    simpa using this
def idx (l : List Bool) : List Int := ((List.range l.length).filter fun i => l.getD i false).map fun (i : Nat) => (i : Int)
theorem seq_range (f : Nat → Bool) : ∀ (ws : List Nat) (k : Nat), (∀ j, j < ws.length → ∀ i, i < 64 → (ws.getD j 0).testBit i = f (64 * (k + j) + i)) → seqI k ws = ((List.range' (64 * k) (64 * ws.length)).filter f).map fun (i : Nat) => (i : Int)
  | [], k, _ => by simp [seqI]
  | w :: ws, k, h => by
    have ih := seq_range f ws (k + 1) (fun j hj i hi => by
      have := h (j + 1) (by simpa using hj) i hi
      rw [show k + 1 + j = k + (j + 1) from by omega]
      simpa using this)
    have e : List.range' (64 * k) (64 * (w :: ws).length) = (List.range 64).map (64 * k + ·) ++ List.range' (64 * (k + 1)) (64 * ws.length) := by
      rw [List.length_cons, Nat.mul_add, Nat.mul_one, Nat.add_comm, List.range'_append_1.symm, Nat.mul_add]
      rw [List.range'_eq_map_range]
    rw [e, List.filter_append, List.map_append, ← ih, seqI]
    congr 1
    unfold wordI bitsL
    rw [List.filter_map, List.map_map]
    have hc : ((List.range 64).filter fun j => w.testBit j) = (List.range 64).filter (f ∘ (64 * k + ·)) := by
      apply List.filter_congr
      intro j hj
      have := h 0 (by simp) j (List.mem_range.1 hj)
      simpa using this
    rw [hc]
    apply List.map_congr_left
    intro j _
    show 64 * (k : Int) + (j : Int) = ((64 * k + j : Nat) : Int)
    omega
theorem filter_tail (n m : Nat) (f : Nat → Bool) (h : ∀ i, n ≤ i → f i = false) : (List.range (n + m)).filter f = (List.range n).filter f := by
  rw [List.range_add, List.filter_append, List.filter_map]
  have : (List.range m).filter (f ∘ (n + ·)) = [] := List.filter_eq_nil_iff.2 (fun j _ => by rw [Function.comp, h _ (Nat.le_add_right _ _)]; decide)
  rw [this, List.map_nil, List.append_nil]
theorem Bits.seq {ws : List Nat} {l : List Bool} (h : Bits ws l) : seqI 0 ws = idx l := by
  rw [seq_range (fun i => l.getD i false) ws 0 (fun j _ i hi => by
    have := h.bit (64 * j + i)
    rw [show (64 * j + i) / 64 = j from by omega, show (64 * j + i) % 64 = i from by omega] at this
    rw [Nat.zero_add]; exact this)]
  unfold idx
  rw [Nat.mul_zero, ← List.range_eq_range']
  congr 1
  obtain ⟨m, hm⟩ : ∃ m, 64 * ws.length = l.length + m := ⟨64 * ws.length - l.length, by have := h.len; omega⟩
  rw [hm]
  exact filter_tail _ _ _ (fun i hi => by rw [List.getD_eq_getElem?_getD, List.getElem?_eq_none hi]; rfl)
end Go.Proofs.YtmfacoccojenlaaDoor.N
end
