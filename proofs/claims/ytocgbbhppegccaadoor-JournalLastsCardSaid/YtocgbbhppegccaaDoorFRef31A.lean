-- Cut for this claim by a program (wip/prune.py) out of the texts that its bench laid or wrote
import Derived.Test.YtocgbbhppegccaaDoorFRef29A
import Derived.Test.YtocgbbhppegccaaDoorFPackA
import Derived.Laws.Bits64b
import Derived.Test.YtocgbbhppegccaaDoorFJournalC
import Derived.Test.YtocgbbhppegccaaDoorFJournalB
section
namespace Go.Proofs.YtocgbbhppegccaaDoor.N
open Go Go.RowKit Go.Proofs.YtocgbbhppegccaaDoor.F Go.Proofs.YtocgbbhppegccaaDoorW.PrintWords Go.Proofs.YtocgbbhppegccaaDoorW.PrintLast Go.Proofs.YtocgbbhppegccaaDoorW.PrintMore
set_option linter.unusedSimpArgs false
set_option linter.unusedVariables false
def Bytes (m : List Nat) : Prop := ∀ n, n ∈ m → n < 256
theorem Bytes.app {a b : List Nat} (ha : Bytes a) (hb : Bytes b) : Bytes (a ++ b) := by
  intro n hn
  rcases List.mem_append.1 hn with h | h
  · exact ha n h
  · exact hb n h
theorem Bytes.take {a : List Nat} (ha : Bytes a) (n : Nat) : Bytes (a.take n) := fun x hx => ha x (List.mem_of_mem_take hx)
theorem Bytes.drop {a : List Nat} (ha : Bytes a) (n : Nat) : Bytes (a.drop n) := fun x hx => ha x (List.mem_of_mem_drop hx)
theorem bytes_get {m : List Nat} (h : Bytes m) (j : Nat) : m.getD j 0 < 256 := by
  rw [List.getD_eq_getElem?_getD]
  by_cases hj : j < m.length
  · rw [List.getElem?_eq_getElem hj]; exact h _ (List.getElem_mem _)
  · rw [List.getElem?_eq_none (by omega)]; exact (by decide : 0 < 256)
def leN : Nat → Nat → List Nat
  | 0, _ => []
  | c + 1, n => n % 256 :: leN c (n / 256)
theorem leN_length (c n : Nat) : (leN c n).length = c := by
  induction c generalizing n with
  | zero => rfl
  | succ c ih => simp [leN, ih]
theorem leN_bytes (c n : Nat) : Bytes (leN c n) := by
  induction c generalizing n with
  | zero => intro x hx; cases hx
  | succ c ih =>
    intro x hx
    rcases List.mem_cons.1 hx with rfl | h
    · exact Nat.mod_lt _ (by decide)
    · exact ih _ x h
def valN : List Nat → Nat
  | [] => 0
  | x :: l => x + 256 * valN l
theorem valN_leN (c n : Nat) (h : n < 256 ^ c) : valN (leN c n) = n := by
  induction c generalizing n with
  | zero => simp at h; subst h; rfl
  | succ c ih =>
    have := ih (n / 256) (by rw [Nat.pow_succ] at h; omega)
    simp only [leN, valN, this]; omega
theorem leN_valN (l : List Nat) (h : Bytes l) : leN l.length (valN l) = l := by
  induction l with
  | nil => rfl
  | cons x l ih =>
    have hx := h x (List.mem_cons_self ..)
    have := ih (fun n hn => h n (List.mem_cons_of_mem _ hn))
    simp only [List.length_cons, leN, valN]
    rw [show (x + 256 * valN l) % 256 = x from by omega, show (x + 256 * valN l) / 256 = valN l from by omega, this]
theorem valN_lt (l : List Nat) (h : Bytes l) : valN l < 256 ^ l.length := by
  induction l with
  | nil => simp [valN]
  | cons x l ih =>
    have hx := h x (List.mem_cons_self ..)
    have := ih (fun n hn => h n (List.mem_cons_of_mem _ hn))
    simp only [List.length_cons, valN, Nat.pow_succ]; omega
theorem leN_snoc (c n : Nat) : leN (c + 1) n = leN c n ++ [n / 256 ^ c % 256] := by
  induction c generalizing n with
  | zero => simp [leN]
  | succ c ih =>
    rw [leN, ih (n / 256), leN, List.cons_append, Nat.div_div_eq_div_mul, Nat.pow_succ, Nat.mul_comm]
theorem ofN_app (a b : List Nat) : ofN (a ++ b) = ofN a ++ ofN b := by simp [ofN]
theorem ofN_take (a : List Nat) (n : Nat) : (ofN a).take n = ofN (a.take n) := by simp [ofN]
theorem ofN_drop (a : List Nat) (n : Nat) : (ofN a).drop n = ofN (a.drop n) := by simp [ofN]
theorem eight_l0 (n : Nat) (d : Nat) : ∀ j : Nat, 8 - j = d → j ≤ 8 → Ev (fun k => journal_eight.l0 k ((n / 256 ^ j : Nat) : Int) (ofN (leN j n)) (j : Int)) (ofN (leN 8 n)) := by
  induction d with
  | zero =>
    intro j hd hj
    obtain rfl : j = 8 := by omega
    refine Ev.step (f := fun _ => some _) (fun k => ?_) (Ev.now _)
    simp only [journal_eight.l0]
    rw [if_neg (by omega)]
  | succ d ih =>
    intro j hd hj
    refine Ev.step (fun k => ?_) (ih (j + 1) (by omega) (by omega))
    have e : ofN (leN (j + 1) n) = ofN (leN j n) ++ [(((n / 256 ^ j : Nat) : Int)) % 256] := by rw [leN_snoc, ofN_app]; rfl
    have e2 : ((n / 256 ^ j : Nat) : Int) / 256 = ((n / 256 ^ (j + 1) : Nat) : Int) := by rw [Nat.pow_succ, ← Nat.div_div_eq_div_mul]; rfl
    simp only [journal_eight.l0]
    rw [if_pos (by omega), if_pos (by rw [ofN_length, leN_length]; omega), i64w (by omega) (by omega), e, e2]
    rfl
theorem eight_ev (n : Nat) : Ev (fun k => journal_eight.f k (n : Int)) (ofN (leN 8 n)) := by
  have h := eight_l0 n 8 0 rfl (by omega)
  rw [Nat.pow_zero, Nat.div_one] at h
  exact h
def stepF (h c : Nat) : Nat := (h ^^^ c) * 1099511628211 % 18446744073709551616
def sumN (h : Nat) (l : List Nat) : Nat := l.foldl stepF h
theorem stepF_lt (h c : Nat) : stepF h c < 18446744073709551616 := Nat.mod_lt _ (by decide)
theorem sumN_lt (l : List Nat) (h : Nat) (hh : h < 18446744073709551616) : sumN h l < 18446744073709551616 := by
  induction l generalizing h with
  | nil => exact hh
  | cons x l ih => exact ih _ (stepF_lt h x)
def sum0 : Nat := 1469598103934665603
theorem back_at (M P Q c z : Nat) (q : P * Q = M * c + 1) (hz : z < M) : z * P % M * Q % M = z := by
  rw [Nat.mod_mul_mod, Nat.mul_assoc, q, Nat.mul_add, Nat.mul_one, Nat.mul_left_comm, Nat.mul_add_mod, Nat.mod_eq_of_lt hz]
theorem back_q : 1099511628211 * 14886173955864302971 = 18446744073709551616 * 887285111055 + 1 := by decide +kernel
theorem mul_back (x y : Nat) (hx : x < 18446744073709551616) (hy : y < 18446744073709551616) (h : x * 1099511628211 % 18446744073709551616 = y * 1099511628211 % 18446744073709551616) : x = y := by
  have e1 := back_at _ _ _ _ x back_q hx
  have e2 := back_at _ _ _ _ y back_q hy
  rw [← e1, h, e2]
theorem stepF_inj (h h' c : Nat) (hh : h < 18446744073709551616) (hh' : h' < 18446744073709551616) (hc : c < 256) (e : stepF h c = stepF h' c) : h = h' := by
  have a := mul_back (h ^^^ c) (h' ^^^ c) (Nat.xor_lt_two_pow (n := 64) hh (by omega)) (Nat.xor_lt_two_pow (n := 64) hh' (by omega)) e
  have b := congrArg (· ^^^ c) a
  simpa [Nat.xor_assoc] using b
theorem stepF_inj2 (h c c' : Nat) (hh : h < 18446744073709551616) (hc : c < 256) (hc' : c' < 256) (e : stepF h c = stepF h c') : c = c' := by
  have a := mul_back (h ^^^ c) (h ^^^ c') (Nat.xor_lt_two_pow (n := 64) hh (by omega)) (Nat.xor_lt_two_pow (n := 64) hh (by omega)) e
  have b := congrArg (h ^^^ ·) a
  simpa [← Nat.xor_assoc] using b
theorem sumN_inj (l : List Nat) (hl : Bytes l) : ∀ h h', h < 18446744073709551616 → h' < 18446744073709551616 → sumN h l = sumN h' l → h = h' := by
  induction l with
  | nil => intro h h' _ _ e; exact e
  | cons x l ih =>
    intro h h' hh hh' e
    have hx := hl x (List.mem_cons_self ..)
    exact stepF_inj h h' x hh hh' hx (ih (fun n hn => hl n (List.mem_cons_of_mem _ hn)) _ _ (stepF_lt h x) (stepF_lt h' x) e)
theorem sumN_app (h : Nat) (a b : List Nat) : sumN h (a ++ b) = sumN (sumN h a) b := List.foldl_append ..
theorem sumN_other (h : Nat) (hh : h < 18446744073709551616) (a b : List Nat) (x y : Nat) (ha : Bytes a) (hb : Bytes b) (hx : x < 256) (hy : y < 256) (hne : x ≠ y) : sumN h (a ++ x :: b) ≠ sumN h (a ++ y :: b) := by
  intro e
  rw [sumN_app, sumN_app] at e
  exact hne (stepF_inj2 _ x y (sumN_lt a h hh) hx hy (sumN_inj b hb _ _ (stepF_lt _ _) (stepF_lt _ _) e))
end Go.Proofs.YtocgbbhppegccaaDoor.N
end
section
namespace Go.Proofs.YtocgbbhppegccaaDoor.F
open Go.RowKit Go.Proofs.YtocgbbhppegccaaDoorW.PrintWords Go.Proofs.YtocgbbhppegccaaDoorW.PrintLast Go.Proofs.YtocgbbhppegccaaDoorW.PrintMore
attribute [local go_sem] max2_int min2_int max_two min_two max_three min_three max_four min_four
set_option linter.unusedVariables false
set_option linter.unusedSimpArgs false
end Go.Proofs.YtocgbbhppegccaaDoor.F
end
section
namespace Go.Proofs.YtocgbbhppegccaaDoor.N
open Go Go.RowKit Go.Proofs.YtocgbbhppegccaaDoor.F Go.Proofs.YtocgbbhppegccaaDoorW.PrintWords Go.Proofs.YtocgbbhppegccaaDoorW.PrintLast Go.Proofs.YtocgbbhppegccaaDoorW.PrintMore
set_option linter.unusedSimpArgs false
set_option linter.unusedVariables false
theorem xor64 (a b : Nat) (ha : a < 18446744073709551616) (hb : b < 18446744073709551616) : Go.bits .xor .u64 (a : Int) (b : Int) = ((a ^^^ b : Nat) : Int) := by
  have hx : a ^^^ b < 2 ^ 64 := Nat.xor_lt_two_pow ha hb
  have h1 : (BitVec.ofInt 64 (a : Int)).toNat = a := by
    rw [BitVec.ofInt_natCast, BitVec.toNat_ofNat]; exact Nat.mod_eq_of_lt ha
  have h2 : (BitVec.ofInt 64 (b : Int)).toNat = b := by
    rw [BitVec.ofInt_natCast, BitVec.toNat_ofNat]; exact Nat.mod_eq_of_lt hb
  show IntKind.u64.wrap ((BitVec.ofInt 64 (a : Int) ^^^ BitVec.ofInt 64 (b : Int)).toNat : Int) = _
  rw [BitVec.toNat_xor, h1, h2, u64n _ hx]
theorem xor8 (a b : Nat) (ha : a < 256) (hb : b < 256) : Go.bits .xor .u8 (a : Int) (b : Int) = ((a ^^^ b : Nat) : Int) := by
  have hx : a ^^^ b < 2 ^ 8 := Nat.xor_lt_two_pow ha hb
  have h1 : (BitVec.ofInt 8 (a : Int)).toNat = a := by
    rw [BitVec.ofInt_natCast, BitVec.toNat_ofNat]; exact Nat.mod_eq_of_lt ha
  have h2 : (BitVec.ofInt 8 (b : Int)).toNat = b := by
    rw [BitVec.ofInt_natCast, BitVec.toNat_ofNat]; exact Nat.mod_eq_of_lt hb
  show IntKind.u8.wrap ((BitVec.ofInt 8 (a : Int) ^^^ BitVec.ofInt 8 (b : Int)).toNat : Int) = _
  rw [BitVec.toNat_xor, h1, h2]
  simp [IntKind.wrap, IntKind.bits, IntKind.signed]; omega
theorem drop_getD (m : List Nat) (j : Nat) (h : j < m.length) : m.drop j = m.getD j 0 :: m.drop (j + 1) := by
  rw [List.drop_eq_getElem_cons h, List.getD_eq_getElem?_getD, List.getElem?_eq_getElem h]; rfl
theorem step_eq (h c : Nat) (hh : h < 18446744073709551616) (hc : c < 256) : IntKind.u64.wrap ((Go.bits .xor .u64 (h : Int) (IntKind.u64.wrap (c : Int))) * 1099511628211) = ((stepF h c : Nat) : Int) := by
  rw [u64n c (by omega), xor64 h c hh (by omega), u64_mod]
  unfold stepF
  generalize h ^^^ c = z
  omega
theorem sum_l0 (m : List Nat) (hm : Bytes m) (hl : m.length < 1000000000) (d : Nat) : ∀ (j h : Nat), m.length - j = d → j ≤ m.length → h < 18446744073709551616 →
    Ev (fun k => pack_Sum.l0 k (h : Int) (ofN m) (m.length : Int) (j : Int)) ((sumN h (m.drop j) : Nat) : Int) := by
  induction d with
  | zero =>
    intro j h hd hj hh
    refine Ev.step (f := fun _ => some _) (fun k => ?_) (Ev.now _)
    simp only [pack_Sum.l0]
    rw [if_neg (by omega), List.drop_eq_nil_of_le (by omega)]; rfl
  | succ d ih =>
    intro j h hd hj hh
    have hlt : j < m.length := by omega
    have hb := bytes_get hm j
    have e := step_eq h _ hh hb
    rw [drop_getD m j hlt]
    refine Ev.step (fun k => ?_) (ih (j + 1) (stepF h (m.getD j 0)) (by omega) (by omega) (stepF_lt _ _))
    simp only [pack_Sum.l0]
    rw [if_pos (by omega), if_pos (by omega), if_pos (by rw [ofN_length]; omega), rd_ofN, e, i64w (by omega) (by omega)]
    rfl
theorem sum_ev (m : List Nat) (hm : Bytes m) (hl : m.length < 1000000000) : Ev (fun k => pack_Sum.f k (ofN m)) ((sumN sum0 m : Nat) : Int) := by
  have h := sum_l0 m hm hl _ 0 sum0 rfl (Nat.zero_le _) (by decide)
  refine Ev.congr (fun k => ?_) h
  unfold pack_Sum.f
  rw [ofN_length]; rfl
end Go.Proofs.YtocgbbhppegccaaDoor.N
end
section
namespace Go.Proofs.YtocgbbhppegccaaDoor.F
open Go.RowKit Go.Proofs.YtocgbbhppegccaaDoorW.PrintWords Go.Proofs.YtocgbbhppegccaaDoorW.PrintLast Go.Proofs.YtocgbbhppegccaaDoorW.PrintMore
attribute [local go_sem] max2_int min2_int max_two min_two max_three min_three max_four min_four
set_option linter.unusedVariables false
set_option linter.unusedSimpArgs false
end Go.Proofs.YtocgbbhppegccaaDoor.F
end
section
namespace Go.Proofs.YtocgbbhppegccaaDoor.N
open Go Go.RowKit Go.Proofs.YtocgbbhppegccaaDoor.F Go.Proofs.YtocgbbhppegccaaDoorW.PrintWords Go.Proofs.YtocgbbhppegccaaDoorW.PrintLast Go.Proofs.YtocgbbhppegccaaDoorW.PrintMore
set_option linter.unusedSimpArgs false
set_option linter.unusedVariables false
theorem valN_snoc (l : List Nat) (x : Nat) : valN (l ++ [x]) = valN l + 256 ^ l.length * x := by
  induction l with
  | nil => simp [valN]
  | cons y l ih => simp only [List.cons_append, valN, ih, List.length_cons, Nat.pow_succ]; grind
theorem take_getD (m : List Nat) (j : Nat) (h : j < m.length) : m.take (j + 1) = m.take j ++ [m.getD j 0] := by
  rw [List.take_succ_eq_append_getElem h, List.getD_eq_getElem?_getD, List.getElem?_eq_getElem h]; rfl
theorem or_step (a b j : Nat) (ha : a < 256 ^ j) (hb : b < 256) (hj : j < 8) : Go.bits .or .u64 (a : Int) (shl .u64 (IntKind.u64.wrap (b : Int)) (wrap64 (8 * (j : Int)))) = ((a + 256 ^ j * b : Nat) : Int) := by
  have p : 256 ^ j = 2 ^ (8 * j) := by rw [show (256 : Nat) = 2 ^ 8 from rfl, ← Nat.pow_mul]
  have hlt : 256 ^ j * 256 ≤ 18446744073709551616 := by
    have h1 : 256 ^ j ≤ 256 ^ 7 := Nat.pow_le_pow_right (by decide) (by omega)
    have h2 := Nat.mul_le_mul_right 256 h1
    exact Nat.le_trans h2 (by decide)
  have hsum : 256 ^ j * b + a < 18446744073709551616 := by
    have h3 : 256 ^ j * b ≤ 256 ^ j * 255 := Nat.mul_le_mul_left _ (by omega)
    have h4 : 256 ^ j * 255 + 256 ^ j = 256 ^ j * 256 := by rw [← Nat.mul_succ]
    omega
  have e1 : wrap64 (8 * (j : Int)) = ((8 * j : Nat) : Int) := by rw [i64w (by omega) (by omega)]; omega
  have e : IntKind.bits .u64 = 64 := rfl
  have hsl : shl .u64 (b : Int) ((8 * j : Nat) : Int) = ((256 ^ j * b : Nat) : Int) := by
    unfold shl
    rw [Int.toNat_natCast, e, Nat.min_eq_left (by omega)]
    have q : (b : Int) * 2 ^ (8 * j) = ((256 ^ j * b : Nat) : Int) := by rw [p, Int.natCast_mul, Int.natCast_pow, Int.mul_comm]; rfl
    rw [q, u64n _ (by omega)]
  rw [u64n b (by omega), e1, hsl, bits_or_u64_nat a _ (by omega) (by omega)]
  congr 1
  have h := Nat.two_pow_add_eq_or_of_lt (i := 8 * j) (b := a) (by rw [← p]; exact ha) b
  rw [← p] at h
  rw [Nat.or_comm, ← h, Nat.add_comm]
theorem num_l0 (m : List Nat) (hm : Bytes m) (hl : m.length = 8) (d : Nat) : ∀ j : Nat, 8 - j = d → j ≤ 8 → Ev (fun k => journal_number.l0 k ((valN (m.take j) : Nat) : Int) (ofN m) (m.length : Int) (j : Int)) ((valN m : Nat) : Int) := by
  induction d with
  | zero =>
    intro j hd hj
    obtain rfl : j = 8 := by omega
    refine Ev.step (f := fun _ => some _) (fun k => ?_) (Ev.now _)
    simp only [journal_number.l0]
    rw [if_neg (by omega), List.take_of_length_le (by omega)]
  | succ d ih =>
    intro j hd hj
    have hlt : j < m.length := by omega
    have hb := bytes_get hm j
    have ha : valN (m.take j) < 256 ^ j := by
      have := valN_lt (m.take j) (hm.take j)
      rwa [List.length_take, Nat.min_eq_left (by omega)] at this
    have e := or_step _ _ j ha hb (by omega)
    have h' := ih (j + 1) (by omega) (by omega)
    have ev : valN (m.take (j + 1)) = valN (m.take j) + 256 ^ j * m.getD j 0 := by
      rw [take_getD m j hlt, valN_snoc, List.length_take, Nat.min_eq_left (by omega)]
    rw [ev] at h'
    refine Ev.step (fun k => ?_) h'
    have c0 : (0 : Int) ≤ wrap64 (8 * (j : Int)) := by rw [i64w (by omega) (by omega)]; omega
    simp only [journal_number.l0]
    rw [if_pos (by omega), if_pos (by omega), if_pos (by rw [ofN_length]; omega), if_pos c0, rd_ofN, e, i64w (by omega) (by omega)]
    rfl
theorem number_ev (m : List Nat) (hm : Bytes m) (hl : 8 ≤ m.length) : Ev (fun k => journal_number.f k (ofN m)) ((valN (m.take 8) : Nat) : Int) := by
  have h8 : (m.take 8).length = 8 := by rw [List.length_take]; omega
  have h := num_l0 (m.take 8) (hm.take 8) h8 8 0 rfl (by omega)
  refine Ev.congr (fun k => ?_) h
  unfold journal_number.f
  rw [if_pos (by rw [ofN_length]; omega), ofN_take, ofN_length]
  rfl
def uw (a : Int) : Nat := (a % 18446744073709551616).toNat
theorem uw_lt (a : Int) : uw a < 18446744073709551616 := by unfold uw; omega
theorem uw_eq (a : Int) : IntKind.u64.wrap a = ((uw a : Nat) : Int) := by rw [u64_mod]; unfold uw; omega
def bodyN (a0 a1 a2 a3 : Int) : List Nat := (a0 % 256).toNat :: (leN 8 (uw a1) ++ (leN 8 (uw a2) ++ leN 8 (uw a3)))
theorem bodyN_length (a0 a1 a2 a3 : Int) : (bodyN a0 a1 a2 a3).length = 25 := by simp [bodyN, leN_length]
theorem bodyN_bytes (a0 a1 a2 a3 : Int) : Bytes (bodyN a0 a1 a2 a3) := by
  intro x hx
  rcases List.mem_cons.1 hx with rfl | h
  · omega
  · exact ((leN_bytes 8 _).app ((leN_bytes 8 _).app (leN_bytes 8 _))) x h
def nextN (s : Nat) (a0 a1 a2 a3 : Int) : Nat := sumN sum0 (leN 8 s ++ bodyN a0 a1 a2 a3)
theorem nextN_lt (s : Nat) (a0 a1 a2 a3 : Int) : nextN s a0 a1 a2 a3 < 18446744073709551616 := sumN_lt _ _ (by decide)
def frameN (s : Nat) (a0 a1 a2 a3 : Int) : List Nat := bodyN a0 a1 a2 a3 ++ leN 8 (nextN s a0 a1 a2 a3)
theorem frameN_length (s : Nat) (a0 a1 a2 a3 : Int) : (frameN s a0 a1 a2 a3).length = 33 := by simp [frameN, bodyN_length, leN_length]
theorem frameN_bytes (s : Nat) (a0 a1 a2 a3 : Int) : Bytes (frameN s a0 a1 a2 a3) := Bytes.app (bodyN_bytes _ _ _ _) (leN_bytes _ _)
theorem frame_end (s : Nat) (a0 a1 a2 a3 : Int) : Ev (fun k => journal_Frame.l0 k (s : Int) (ofN (bodyN a0 a1 a2 a3)) [a1, a2, a3] 3 3) (ofN (frameN s a0 a1 a2 a3), ((nextN s a0 a1 a2 a3 : Nat) : Int)) := by
  apply Ev.step
  case h =>
    intro k
    simp only [journal_Frame.l0]
    rw [if_neg (by decide)]
  refine Ev.bind (eight_ev s) ?_
  refine Ev.congr (fun k => by rw [if_pos (by rw [ofN_length, ofN_length, leN_length, bodyN_length]; decide), ← ofN_app]) ?_
  refine Ev.bind (sum_ev (leN 8 s ++ bodyN a0 a1 a2 a3) (Bytes.app (leN_bytes _ _) (bodyN_bytes _ _ _ _)) (by rw [List.length_append, leN_length, bodyN_length]; decide)) ?_
  refine Ev.bind (eight_ev (nextN s a0 a1 a2 a3)) ?_
  refine Ev.congr (fun k => ?_) (Ev.now _)
  rw [if_pos (by rw [ofN_length, ofN_length, leN_length, bodyN_length]; decide), ← ofN_app]
  rfl
theorem frame_step (s : Int) (m : List Nat) (a1 a2 a3 : Int) (j : Nat) (hj : j < 3) (a : Int) (ha : rd [a1, a2, a3] (j : Int) = a) (hm : m.length ≤ 100) {r : List Int × Int} (h : Ev (fun k => journal_Frame.l0 k s (ofN (m ++ leN 8 (uw a))) [a1, a2, a3] 3 ((j + 1 : Nat) : Int)) r) :
    Ev (fun k => journal_Frame.l0 k s (ofN m) [a1, a2, a3] 3 (j : Int)) r := by
  apply Ev.step
  case h =>
    intro k
    simp only [journal_Frame.l0]
    rw [if_pos (by omega), if_pos (by omega), if_pos (by simp; omega), ha, uw_eq a]
  refine Ev.bind (eight_ev (uw a)) ?_
  refine Ev.congr (fun k => ?_) h
  rw [if_pos (by rw [ofN_length, ofN_length, leN_length]; omega), ← ofN_app, i64w (by omega) (by omega)]
  rfl
theorem frame_ev (s : Nat) (a0 a1 a2 a3 : Int) : Ev (fun k => journal_Frame.f k (s : Int) a0 a1 a2 a3) (ofN (frameN s a0 a1 a2 a3), ((nextN s a0 a1 a2 a3 : Nat) : Int)) := by
  unfold journal_Frame.f
  simp only [Option.bind_some]
  have h3 := frame_end s a0 a1 a2 a3
  have e : bodyN a0 a1 a2 a3 = (([(a0 % 256).toNat] ++ leN 8 (uw a1)) ++ leN 8 (uw a2)) ++ leN 8 (uw a3) := by simp [bodyN]
  rw [e] at h3
  have h2 := frame_step s _ a1 a2 a3 2 (by decide) a3 rfl (by simp [leN_length]) h3
  have h1 := frame_step s _ a1 a2 a3 1 (by decide) a2 rfl (by simp [leN_length]) h2
  have h0 := frame_step s _ a1 a2 a3 0 (by decide) a1 rfl (by simp) h1
  refine Ev.congr (fun k => ?_) h0
  have e0 : ([a0 % 256] : List Int) = ofN [(a0 % 256).toNat] := by simp [ofN]; omega
  rw [e0]; rfl
end Go.Proofs.YtocgbbhppegccaaDoor.N
end
section
namespace Go.Proofs.YtocgbbhppegccaaDoor.F
open Go.RowKit Go.Proofs.YtocgbbhppegccaaDoorW.PrintWords Go.Proofs.YtocgbbhppegccaaDoorW.PrintLast Go.Proofs.YtocgbbhppegccaaDoorW.PrintMore
attribute [local go_sem] max2_int min2_int max_two min_two max_three min_three max_four min_four
set_option linter.unusedVariables false
set_option linter.unusedSimpArgs false
end Go.Proofs.YtocgbbhppegccaaDoor.F
end
