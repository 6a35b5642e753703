-- Cut for this claim by a program (wip/prune.py) out of the texts that its bench laid or wrote
import Derived.Test.YtocgbbhppegccaaDoorFeq
import Derived.Test.YtocgbbhppegccaaDoorFJournalA
import Derived.Test.YtocgbbhppegccaaDoorFRef29A
import Derived.Test.YtocgbbhppegccaaDoorFPackA
import Derived.Laws.Bits64b
import Derived.Test.YtocgbbhppegccaaDoorFJournalC
section
namespace Go.Proofs.YtocgbbhppegccaaDoor.N
open Go Go.RowKit Go.Proofs.YtocgbbhppegccaaDoor.F Go.Proofs.YtocgbbhppegccaaDoorW.PrintWords Go.Proofs.YtocgbbhppegccaaDoorW.PrintLast Go.Proofs.YtocgbbhppegccaaDoorW.PrintMore
set_option linter.unusedSimpArgs false
set_option linter.unusedVariables false
def Bytes (m : List Nat) : Prop := ∀ n, n ∈ m → n < 256
theorem Bytes.app {a b : List Nat} (ha : Bytes a) (hb : Bytes b) : Bytes (a ++ b) := by
  intro n hn
  rcases List.mem_append.1 hn with h | h
  · exact ha n h
  · exact hb n h
theorem Bytes.take {a : List Nat} (ha : Bytes a) (n : Nat) : Bytes (a.take n) := fun x hx => ha x (List.mem_of_mem_take hx)
theorem Bytes.drop {a : List Nat} (ha : Bytes a) (n : Nat) : Bytes (a.drop n) := fun x hx => ha x (List.mem_of_mem_drop hx)
theorem bytes_get {m : List Nat} (h : Bytes m) (j : Nat) : m.getD j 0 < 256 := by
  rw [List.getD_eq_getElem?_getD]
  by_cases hj : j < m.length
  · rw [List.getElem?_eq_getElem hj]; exact h _ (List.getElem_mem _)
  · rw [List.getElem?_eq_none (by omega)]; exact (by decide : 0 < 256)
def leN : Nat → Nat → List Nat
  | 0, _ => []
  | c + 1, n => n % 256 :: leN c (n / 256)
theorem leN_length (c n : Nat) : (leN c n).length = c := by
  induction c generalizing n with
  | zero => rfl
  | succ c ih => simp [leN, ih]
theorem leN_bytes (c n : Nat) : Bytes (leN c n) := by
  induction c generalizing n with
  | zero => intro x hx; cases hx
  | succ c ih =>
    intro x hx
    rcases List.mem_cons.1 hx with rfl | h
    · exact Nat.mod_lt _ (by decide)
    · exact ih _ x h
def valN : List Nat → Nat
  | [] => 0
  | x :: l => x + 256 * valN l
theorem valN_leN (c n : Nat) (h : n < 256 ^ c) : valN (leN c n) = n := by
  induction c generalizing n with
  | zero => simp at h; subst h; rfl
  | succ c ih =>
    have := ih (n / 256) (by rw [Nat.pow_succ] at h; omega)
    simp only [leN, valN, this]; omega
theorem leN_valN (l : List Nat) (h : Bytes l) : leN l.length (valN l) = l := by
  induction l with
  | nil => rfl
  | cons x l ih =>
    have hx := h x (List.mem_cons_self ..)
    have := ih (fun n hn => h n (List.mem_cons_of_mem _ hn))
    simp only [List.length_cons, leN, valN]
    rw [show (x + 256 * valN l) % 256 = x from by omega, show (x + 256 * valN l) / 256 = valN l from by omega, this]
theorem valN_lt (l : List Nat) (h : Bytes l) : valN l < 256 ^ l.length := by
  induction l with
  | nil => simp [valN]
  | cons x l ih =>
    have hx := h x (List.mem_cons_self ..)
    have := ih (fun n hn => h n (List.mem_cons_of_mem _ hn))
    simp only [List.length_cons, valN, Nat.pow_succ]; omega
theorem leN_snoc (c n : Nat) : leN (c + 1) n = leN c n ++ [n / 256 ^ c % 256] := by
  induction c generalizing n with
  | zero => simp [leN]
  | succ c ih =>
    rw [leN, ih (n / 256), leN, List.cons_append, Nat.div_div_eq_div_mul, Nat.pow_succ, Nat.mul_comm]
theorem ofN_app (a b : List Nat) : ofN (a ++ b) = ofN a ++ ofN b := by simp [ofN]
theorem ofN_take (a : List Nat) (n : Nat) : (ofN a).take n = ofN (a.take n) := by simp [ofN]
theorem ofN_drop (a : List Nat) (n : Nat) : (ofN a).drop n = ofN (a.drop n) := by simp [ofN]
theorem eight_l0 (n : Nat) (d : Nat) : ∀ j : Nat, 8 - j = d → j ≤ 8 → Ev (fun k => journal_eight.l0 k ((n / 256 ^ j : Nat) : Int) (ofN (leN j n)) (j : Int)) (ofN (leN 8 n)) := by
  induction d with
  | zero =>
    intro j hd hj
    obtain rfl : j = 8 := by omega
    refine Ev.step (f := fun _ => some _) (fun k => ?_) (Ev.now _)
    simp only [journal_eight.l0]
    rw [if_neg (by omega)]
  | succ d ih =>
    intro j hd hj
    refine Ev.step (fun k => ?_) (ih (j + 1) (by omega) (by omega))
    have e : ofN (leN (j + 1) n) = ofN (leN j n) ++ [(((n / 256 ^ j : Nat) : Int)) % 256] := by rw [leN_snoc, ofN_app]; rfl
    have e2 : ((n / 256 ^ j : Nat) : Int) / 256 = ((n / 256 ^ (j + 1) : Nat) : Int) := by rw [Nat.pow_succ, ← Nat.div_div_eq_div_mul]; rfl
    simp only [journal_eight.l0]
    rw [if_pos (by omega), if_pos (by rw [ofN_length, leN_length]; omega), i64w (by omega) (by omega), e, e2]
    rfl
theorem eight_ev (n : Nat) : Ev (fun k => journal_eight.f k (n : Int)) (ofN (leN 8 n)) := by
  have h := eight_l0 n 8 0 rfl (by omega)
  rw [Nat.pow_zero, Nat.div_one] at h
  exact h
def stepF (h c : Nat) : Nat := (h ^^^ c) * 1099511628211 % 18446744073709551616
def sumN (h : Nat) (l : List Nat) : Nat := l.foldl stepF h
theorem stepF_lt (h c : Nat) : stepF h c < 18446744073709551616 := Nat.mod_lt _ (by decide)
theorem sumN_lt (l : List Nat) (h : Nat) (hh : h < 18446744073709551616) : sumN h l < 18446744073709551616 := by
  induction l generalizing h with
  | nil => exact hh
  | cons x l ih => exact ih _ (stepF_lt h x)
def sum0 : Nat := 1469598103934665603
end Go.Proofs.YtocgbbhppegccaaDoor.N
end
section
namespace Go.Proofs.YtocgbbhppegccaaDoor.F
open Go.RowKit Go.Proofs.YtocgbbhppegccaaDoorW.PrintWords Go.Proofs.YtocgbbhppegccaaDoorW.PrintLast Go.Proofs.YtocgbbhppegccaaDoorW.PrintMore
attribute [local go_sem] max2_int min2_int max_two min_two max_three min_three max_four min_four
set_option linter.unusedVariables false
set_option linter.unusedSimpArgs false
def tombolaref46_number.l0 : Nat → List Int → Int → Int → Option (Int)
 | 0, _, _, _ => none
 | k + 1, x0, x3, x4 => if x4 ≥ 0 then (if 0 ≤ x4 then (if x4 < (x0.length : Int) then (tombolaref46_number.l0 k x0 (IntKind.u64.wrap ((IntKind.u64.wrap (x3 * 256)) + (IntKind.u64.wrap (rd x0 x4)))) (wrap64 (x4 - 1))) else (none)) else (none)) else (some x3)
def tombolaref46_number.f (k : Nat) (l0 : List Int) : Option (Int) := tombolaref46_number.l0 k l0 0 7
set_option maxHeartbeats 8000000 in
set_option maxRecDepth 100000 in
theorem tombolaref46_number.calls (k : Nat) (A0 : Option Addr) (c0 : Nat) (l0 : List Int) (r : Int) (w : World) (hr0 : Kd.C (Kd.int .u8) w A0 l0.length l0) (hc0 : l0.length ≤ c0) (h : tombolaref46_number.f k l0 = some r) :
  Calls Tryd.prog 25 #[.slice A0 l0.length c0] w fun e w' => e = .returned (.int .u64 r) ∧ Drawn0 w w' := by
 have HR0 := Aside0.mk hr0
 have HC0 := Aside0.mk hc0
 clear hr0 hc0
 have H : (tombolaref46_number.l0 k l0 0 7) = some r := h
 clear h
 have H' := Aside0.mk H
 clear H
 go_enter Tryd.func25, Tryd.ntmps25
 go_wp2
 go_loopg [3, 4] k (fun kq v3 v4 w' => ∃ (x3_1 : Int) (x4_1 : Int), v3 = .int .u64 x3_1 ∧ v4 = .int .i64 x4_1 ∧ Aside0 (tombolaref46_number.l0 kq l0 x3_1 x4_1 = some r) ∧ Aside0 (kq ≤ k) ∧ Drawn0 w w')
 case atStart => exact ⟨(0), (7), (by first|rfl|(simp;done)|(simp [*];done)), (by first|rfl|(simp;done)|(simp [*];done)), H', ⟨Nat.le_refl _⟩, by repeat (first|exact Drawn0.refl _|apply Drawn0.step)⟩
 case round =>
  clear H'
  obtain ⟨x3_1, x4_1, rfl, rfl, HA, HK1, ⟨m1, rfl⟩⟩ := hrel
  cases gk with
  | zero => exact absurd HA.out (by first|(intro h_;cases h_;done)|simp [tombolaref46_number.l0])
  | succ k1 =>
   have H := HA.out
   clear HA
   simp only [tombolaref46_number.l0] at H
   by_cases c2 : x4_1 ≥ 0
   ·rw [if_pos c2] at H
    have c2b0 : decide (0 ≤ x4_1) = true := decide_eq_true c2
    clear c2
    by_cases c3 : 0 ≤ x4_1
    ·rw [if_pos c3] at H
     have c3b0 : decide (0 ≤ x4_1) = true := decide_eq_true c3
     clear c3
     by_cases c4 : x4_1 < (l0.length : Int)
     ·rw [if_pos c4] at H
      have c4b0 : decide (x4_1 < (l0.length : Int)) = true := decide_eq_true c4
      clear c4
      have H' := Aside0.mk H
      clear H
      have p101 : 0 ≤ (x4_1 : Int) := of_decide_eq_true (by first|(with_reducible assumption)|assumption)
      have q101 : x4_1 < (l0.length : Int) := of_decide_eq_true (by first|(with_reducible assumption)|assumption)
      obtain ⟨ad101, e101, hx101_0⟩ := Kd.at_int HR0.out x4_1 p101 q101
      cases e101
      replace p101 := eq_true p101
      replace q101 := eq_true q101
      go_wp2
      go_roundg k1
      case measure => have := HK1.out;omega
      case rel => exact ⟨(IntKind.u64.wrap ((IntKind.u64.wrap (x3_1 * 256)) + (IntKind.u64.wrap (rd l0 x4_1)))), (wrap64 (x4_1 - 1)), (by first|rfl|(simp;done)|(simp [*];done)), (by first|rfl|(simp;done)|(simp [*];done)), H', ⟨by have := HK1.out;omega⟩, by repeat (first|exact Drawn0.refl _|apply Drawn0.step)⟩
     ·rw [if_neg c4] at H
      exact absurd H (by simp)
    ·rw [if_neg c3] at H
     exact absurd H (by simp)
   ·rw [if_neg c2] at H
    have c2b0 : decide (0 ≤ x4_1) = false := decide_eq_false c2
    clear c2
    obtain rfl := Option.some.inj H
    go_wp2
    go_ret
    exact ⟨by first|rfl|(simp;done)|(simp [*];done), by repeat (first|exact Drawn0.refl _|apply Drawn0.step)⟩
end Go.Proofs.YtocgbbhppegccaaDoor.F
end
section
namespace Go.Proofs.YtocgbbhppegccaaDoor.N
open Go Go.RowKit Go.Proofs.YtocgbbhppegccaaDoor.F Go.Proofs.YtocgbbhppegccaaDoorW.PrintWords Go.Proofs.YtocgbbhppegccaaDoorW.PrintLast Go.Proofs.YtocgbbhppegccaaDoorW.PrintMore
set_option linter.unusedSimpArgs false
set_option linter.unusedVariables false
theorem xor64 (a b : Nat) (ha : a < 18446744073709551616) (hb : b < 18446744073709551616) : Go.bits .xor .u64 (a : Int) (b : Int) = ((a ^^^ b : Nat) : Int) := by
  have hx : a ^^^ b < 2 ^ 64 := Nat.xor_lt_two_pow ha hb
  have h1 : (BitVec.ofInt 64 (a : Int)).toNat = a := by
    rw [BitVec.ofInt_natCast, BitVec.toNat_ofNat]; exact Nat.mod_eq_of_lt ha
  have h2 : (BitVec.ofInt 64 (b : Int)).toNat = b := by
    rw [BitVec.ofInt_natCast, BitVec.toNat_ofNat]; exact Nat.mod_eq_of_lt hb
  show IntKind.u64.wrap ((BitVec.ofInt 64 (a : Int) ^^^ BitVec.ofInt 64 (b : Int)).toNat : Int) = _
  rw [BitVec.toNat_xor, h1, h2, u64n _ hx]
theorem xor8 (a b : Nat) (ha : a < 256) (hb : b < 256) : Go.bits .xor .u8 (a : Int) (b : Int) = ((a ^^^ b : Nat) : Int) := by
  have hx : a ^^^ b < 2 ^ 8 := Nat.xor_lt_two_pow ha hb
  have h1 : (BitVec.ofInt 8 (a : Int)).toNat = a := by
    rw [BitVec.ofInt_natCast, BitVec.toNat_ofNat]; exact Nat.mod_eq_of_lt ha
  have h2 : (BitVec.ofInt 8 (b : Int)).toNat = b := by
    rw [BitVec.ofInt_natCast, BitVec.toNat_ofNat]; exact Nat.mod_eq_of_lt hb
  show IntKind.u8.wrap ((BitVec.ofInt 8 (a : Int) ^^^ BitVec.ofInt 8 (b : Int)).toNat : Int) = _
  rw [BitVec.toNat_xor, h1, h2]
  simp [IntKind.wrap, IntKind.bits, IntKind.signed]; omega
theorem drop_getD (m : List Nat) (j : Nat) (h : j < m.length) : m.drop j = m.getD j 0 :: m.drop (j + 1) := by
  rw [List.drop_eq_getElem_cons h, List.getD_eq_getElem?_getD, List.getElem?_eq_getElem h]; rfl
theorem step_eq (h c : Nat) (hh : h < 18446744073709551616) (hc : c < 256) : IntKind.u64.wrap ((Go.bits .xor .u64 (h : Int) (IntKind.u64.wrap (c : Int))) * 1099511628211) = ((stepF h c : Nat) : Int) := by
  rw [u64n c (by omega), xor64 h c hh (by omega), u64_mod]
  unfold stepF
  generalize h ^^^ c = z
  omega
theorem sum_l0 (m : List Nat) (hm : Bytes m) (hl : m.length < 1000000000) (d : Nat) : ∀ (j h : Nat), m.length - j = d → j ≤ m.length → h < 18446744073709551616 →
    Ev (fun k => pack_Sum.l0 k (h : Int) (ofN m) (m.length : Int) (j : Int)) ((sumN h (m.drop j) : Nat) : Int) := by
  induction d with
  | zero =>
    intro j h hd hj hh
    refine Ev.step (f := fun _ => some _) (fun k => ?_) (Ev.now _)
    simp only [pack_Sum.l0]
    rw [if_neg (by omega), List.drop_eq_nil_of_le (by omega)]; rfl
  | succ d ih =>
    intro j h hd hj hh
    have hlt : j < m.length := by omega
    have hb := bytes_get hm j
    have e := step_eq h _ hh hb
    rw [drop_getD m j hlt]
    refine Ev.step (fun k => ?_) (ih (j + 1) (stepF h (m.getD j 0)) (by omega) (by omega) (stepF_lt _ _))
    simp only [pack_Sum.l0]
    rw [if_pos (by omega), if_pos (by omega), if_pos (by rw [ofN_length]; omega), rd_ofN, e, i64w (by omega) (by omega)]
    rfl
theorem sum_ev (m : List Nat) (hm : Bytes m) (hl : m.length < 1000000000) : Ev (fun k => pack_Sum.f k (ofN m)) ((sumN sum0 m : Nat) : Int) := by
  have h := sum_l0 m hm hl _ 0 sum0 rfl (Nat.zero_le _) (by decide)
  refine Ev.congr (fun k => ?_) h
  unfold pack_Sum.f
  rw [ofN_length]; rfl
theorem xor_low (h c : Nat) (hc : c < 256) : h - h % 256 + (h % 256 ^^^ c) = h ^^^ c := by
  have e1 : (h ^^^ c) % 256 = h % 256 ^^^ c := by
    have := Nat.xor_mod_two_pow (a := h) (b := c) (n := 8)
    simpa [Nat.mod_eq_of_lt hc] using this
  have e2 : (h ^^^ c) / 256 = h / 256 := by
    have := Nat.xor_div_two_pow (a := h) (b := c) (n := 8)
    simpa [Nat.div_eq_of_lt hc] using this
  have := Nat.div_add_mod (h ^^^ c) 256
  have := Nat.div_add_mod h 256
  omega
theorem rstep_eq (h c : Nat) (hh : h < 18446744073709551616) (hc : c < 256) : IntKind.u64.wrap ((IntKind.u64.wrap ((IntKind.u64.wrap ((h : Int) - (Int.tmod (h : Int) 256))) + (IntKind.u64.wrap (Go.bits .xor .u8 ((Int.tmod (h : Int) 256) % 256) (c : Int))))) * 1099511628211) = ((stepF h c : Nat) : Int) := by
  have e0 : Int.tmod (h : Int) 256 = ((h % 256 : Nat) : Int) := tmod_nat h 256
  have hm : h % 256 < 256 := Nat.mod_lt _ (by decide)
  have hx : h % 256 ^^^ c < 256 := Nat.xor_lt_two_pow (n := 8) hm hc
  have hxh : h ^^^ c < 18446744073709551616 := Nat.xor_lt_two_pow (n := 64) hh (by omega)
  rw [e0, show (((h % 256 : Nat) : Int) % 256) = ((h % 256 : Nat) : Int) from by omega, xor8 _ c hm hc, u64n _ (by omega), show ((h : Int) - ((h % 256 : Nat) : Int)) = ((h - h % 256 : Nat) : Int) from by omega, u64n _ (by omega), ← Int.natCast_add, xor_low h c hc, u64n _ hxh, u64_mod]
  unfold stepF
  generalize h ^^^ c = z
  omega
theorem rsum_l0 (m : List Nat) (hm : Bytes m) (hl : m.length < 1000000000) (d : Nat) : ∀ (j h : Nat), m.length - j = d → j ≤ m.length → h < 18446744073709551616 →
    Ev (fun k => tombolaref29_Sum.l0 k (ofN m) (h : Int) (j : Int)) ((sumN h (m.drop j) : Nat) : Int) := by
  induction d with
  | zero =>
    intro j h hd hj hh
    refine Ev.step (f := fun _ => some _) (fun k => ?_) (Ev.now _)
    simp only [tombolaref29_Sum.l0]
    rw [if_neg (by rw [ofN_length]; omega), List.drop_eq_nil_of_le (by omega)]; rfl
  | succ d ih =>
    intro j h hd hj hh
    have hlt : j < m.length := by omega
    have hb := bytes_get hm j
    have e := rstep_eq h _ hh hb
    rw [drop_getD m j hlt]
    refine Ev.step (fun k => ?_) (ih (j + 1) (stepF h (m.getD j 0)) (by omega) (by omega) (stepF_lt _ _))
    simp only [tombolaref29_Sum.l0]
    rw [if_pos (by rw [ofN_length]; omega), if_pos (by omega), rd_ofN, e, i64w (by omega) (by omega)]
    rfl
theorem rsum_ev (m : List Nat) (hm : Bytes m) (hl : m.length < 1000000000) : Ev (fun k => tombolaref29_Sum.f k (ofN m)) ((sumN sum0 m : Nat) : Int) :=
  rsum_l0 m hm hl _ 0 sum0 rfl (Nat.zero_le _) (by decide)
theorem rbytes_l0 (n : Nat) (hn : n < 18446744073709551616) (d : Nat) : ∀ j : Nat, 8 - j = d → j ≤ 8 →
    Ev (fun k => tombolaref46_bytes.l0 k ((n / 256 ^ j : Nat) : Int) (ofN (leN j n ++ List.replicate (8 - j) 0)) (j : Int)) (ofN (leN 8 n)) := by
  induction d with
  | zero =>
    intro j hd hj
    obtain rfl : j = 8 := by omega
    refine Ev.step (f := fun _ => some _) (fun k => ?_) (Ev.now _)
    simp only [tombolaref46_bytes.l0]
    rw [if_neg (by omega)]
    simp
  | succ d ih =>
    intro j hd hj
    refine Ev.step (fun k => ?_) (ih (j + 1) (by omega) (by omega))
    have hle : n / 256 ^ j ≤ n := Nat.div_le_self _ _
    have e2 : Int.tdiv ((n / 256 ^ j : Nat) : Int) 256 = ((n / 256 ^ (j + 1) : Nat) : Int) := by
      rw [Nat.pow_succ, ← Nat.div_div_eq_div_mul]; exact tdiv_nat _ 256
    have e3 : (Int.tmod ((n / 256 ^ j : Nat) : Int) 256) % 256 = ((n / 256 ^ j % 256 : Nat) : Int) := by
      rw [show Int.tmod ((n / 256 ^ j : Nat) : Int) 256 = ((n / 256 ^ j % 256 : Nat) : Int) from tmod_nat _ 256]; omega
    have hs : (leN j n ++ List.replicate (8 - j) 0).set j (n / 256 ^ j % 256) = leN (j + 1) n ++ List.replicate (8 - (j + 1)) 0 := by
      rw [leN_snoc, show 8 - j = (8 - (j + 1)) + 1 from by omega, List.replicate_succ, List.set_append_right _ _ (by rw [leN_length]; omega), leN_length, Nat.sub_self, List.set_cons_zero, List.append_assoc]; rfl
    have hq : n / 256 ^ (j + 1) ≤ n := Nat.div_le_self _ _
    simp only [tombolaref46_bytes.l0]
    rw [if_pos (by omega), if_pos (by omega), if_pos (by rw [ofN_length, List.length_append, leN_length, List.length_replicate]; omega), e2, u64n _ (by omega), e3, Int.toNat_natCast, ofN_set, hs, i64w (by omega) (by omega)]
    rfl
theorem rbytes_ev (n : Nat) (hn : n < 18446744073709551616) : Ev (fun k => tombolaref46_bytes.f k (n : Int)) (ofN (leN 8 n)) := by
  have h := rbytes_l0 n hn 8 0 rfl (by omega)
  rw [Nat.pow_zero, Nat.div_one] at h
  refine Ev.congr (fun k => ?_) h
  unfold tombolaref46_bytes.f
  rw [if_pos (by decide)]
  rfl
end Go.Proofs.YtocgbbhppegccaaDoor.N
end
