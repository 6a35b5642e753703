-- Cut for this claim by a program (wip/prune.py) out of the texts that its bench laid or wrote
import Derived.Test.YteipfcflijdapaaDoorProg
import Derived.Below
import Derived.Deep.Draws
import Derived.Deep.AppendLies
import Derived.Maps.AppendAt
import Derived.OwnWalk
import Derived.Laws.BytesArg
import Derived.Laws.MakeOwn
import Derived.Laws.OwnMore
import Derived.Deep.OwnRows
import Derived.Tactics
import Derived.Lib.ConvBytes
import Derived.Laws.Slices
import Derived.WalkKit
import Derived.KernelRfl
import Derived.RowKit3
import Derived.Deep.LoopGhost
import Derived.Deep.QuietTactic
import Derived.BigQuiet
import Derived.WideLaws
import Derived.Deep.DeepCutAuto
import Derived.Deep.CutBlock
import Derived.Deep.RegionHeld3
import Derived.Laws.Rows
import Derived.Lib.AppendStr
import Derived.ArgAppend
import Derived.Laws.IdiomCopy
import Derived.OrdersHeld
import Derived.Laws.BitsLemmas
import Derived.RowKit
import Derived.Test.YteipfcflijdapaaDoorWWords
import Derived.Test.YteipfcflijdapaaDoorWLast
import Derived.Test.YteipfcflijdapaaDoorWFoot
import Derived.Test.YteipfcflijdapaaDoorWMore
import Derived.Laws.Bits64b
import Derived.Lib.TrailingZeros
section
namespace Go.Proofs.YteipfcflijdapaaDoor.F
open Go.RowKit Go.Proofs.YteipfcflijdapaaDoorW.PrintWords Go.Proofs.YteipfcflijdapaaDoorW.PrintLast Go.Proofs.YteipfcflijdapaaDoorW.PrintMore
attribute [local go_sem] max2_int min2_int max_two min_two max_three min_three max_four min_four
set_option linter.unusedVariables false
set_option linter.unusedSimpArgs false
def errW : Option Int → Value
 | none => .nilIface
 | some c => .iface 0 (.int .i64 c)
theorem errW_none : errW none = .nilIface := rfl
theorem errW_some (c : Int) : errW (some c) = .iface 0 (.int .i64 c) := rfl
theorem info3 : (Tryd.prog.info? 3).map (fun i => (i.zero, i.size, i.bytes)) = some (some (.int .i64 0), 1, 8) := by kernel_rfl
end Go.Proofs.YteipfcflijdapaaDoor.F
end
section
namespace Go.Proofs.YteipfcflijdapaaDoor.F
open Go.RowKit Go.Proofs.YteipfcflijdapaaDoorW.PrintWords Go.Proofs.YteipfcflijdapaaDoorW.PrintLast Go.Proofs.YteipfcflijdapaaDoorW.PrintMore
set_option linter.unusedSimpArgs false
set_option linter.unusedVariables false
def Tab (w : World) : Prop := 0 < w.heap.size ∧ ∀ j, j < 64 → w.cell? ⟨0, j, none⟩ = some (.int .u8 (Go.Lib.deBruijn64tab.getD j 0 : Nat))
theorem Tab.later {w W : World} (h : Aside0 (Tab w)) (hb : Below w.heap.size w W) : Aside0 (Tab W) :=
  ⟨⟨Nat.lt_of_lt_of_le h.out.1 hb.size, fun j hj => (hb.cell (p := ⟨0, j, none⟩) h.out.1).trans (h.out.2 j hj)⟩⟩
def tzAt (x : Int) : Int := IntKind.u64.wrap (bits BinOp.and IntKind.u64 x (IntKind.u64.wrap (-x)) * 285870213051353865) / 288230376151711744
theorem tzAt_lt (x : Int) : 0 ≤ tzAt x ∧ tzAt x < 64 := by
  have h : IntKind.u64.wrap (bits BinOp.and IntKind.u64 x (IntKind.u64.wrap (-x)) * 285870213051353865) = (bits BinOp.and IntKind.u64 x (IntKind.u64.wrap (-x)) * 285870213051353865) % 18446744073709551616 := by simp [IntKind.wrap, IntKind.signed, IntKind.bits]
  unfold tzAt
  rw [h]
  generalize bits BinOp.and IntKind.u64 x (IntKind.u64.wrap (-x)) * 285870213051353865 = z
  omega
theorem tab_le : ∀ j, j < 64 → Go.Lib.deBruijn64tab.getD j 0 < 64 := by decide +kernel
set_option maxHeartbeats 1000000 in
theorem tz_core (x : Int) (k idx : Nat) (w : World) (hx0 : (x == 0) = false)
    (key : IntKind.u64.wrap (bits BinOp.and IntKind.u64 x (IntKind.u64.wrap (-x)) * 285870213051353865) / 288230376151711744 = (idx : Int))
    (hi : idx < 64) (hk : k < 64) (hcell : w.cell? ⟨0, idx, none⟩ = some (.int .u8 k)) :
    Calls Tryd.prog 34 #[.int .u64 x] w fun e w' => e = .returned (.int .i64 k) ∧ w' = w := by
  go_enter Tryd.func34, Tryd.ntmps34
  go_wp2_with (simp only [key])
  go_ret
  exact ⟨rfl, rfl⟩
theorem tz_zero (w : World) : Calls Tryd.prog 34 #[.int .u64 0] w fun e w' => e = .returned (.int .i64 64) ∧ w' = w := by
  go_enter Tryd.func34, Tryd.ntmps34
  go_wp2
  go_ret
  exact ⟨rfl, rfl⟩
end Go.Proofs.YteipfcflijdapaaDoor.F
end
section
namespace Go.Proofs.YteipfcflijdapaaDoor.F
open Go.RowKit Go.Proofs.YteipfcflijdapaaDoorW.PrintWords Go.Proofs.YteipfcflijdapaaDoorW.PrintLast Go.Proofs.YteipfcflijdapaaDoorW.PrintMore
attribute [local go_sem] max2_int min2_int max_two min_two max_three min_three max_four min_four
set_option linter.unusedVariables false
set_option linter.unusedSimpArgs false
def bits_TrailingZeros64.f (a0 : Int) : Option Int := some (if a0 = 0 then 64 else ((Go.Lib.deBruijn64tab.getD (tzAt a0).toNat 0 : Nat) : Int))
theorem bits_TrailingZeros64.calls (a0 : Int) (r : Int) (w : World) (h : bits_TrailingZeros64.f a0 = some r) (HT : Aside0 (Tab w)) :
  Calls Tryd.prog 34 #[.int .u64 a0] w fun e w' => e = .returned (.int .i64 r) ∧ Drawn0 w w' := by
 have h' := Option.some.inj h
 by_cases h0 : a0 = 0
 ·rw [if_pos h0] at h'
  subst h' h0
  exact (tz_zero w).mono fun e w' ⟨he, hw⟩ => ⟨he, by rw [hw];exact Drawn0.refl w⟩
 ·rw [if_neg h0] at h'
  subst h'
  obtain ⟨k0, k1⟩ := tzAt_lt a0
  have hk : (tzAt a0).toNat < 64 := by omega
  exact (tz_core a0 _ (tzAt a0).toNat w (by simpa using h0) (by have := Int.toNat_of_nonneg k0;rw [this];rfl) hk (tab_le _ hk) (HT.out.2 _ hk)).mono fun e w' ⟨he, hw⟩ => ⟨he, by rw [hw];exact Drawn0.refl w⟩
end Go.Proofs.YteipfcflijdapaaDoor.F
end
section
namespace Go.Proofs.YteipfcflijdapaaDoor.Digs
def val : List Int → Int
  | [] => 0
  | d :: l => d + 65536 * val l
def digsF : Nat → Nat → List Int
  | 0, _ => []
  | f + 1, n => if n = 0 then [] else ((n % 65536 : Nat) : Int) :: digsF f (n / 65536)
def digs (n : Nat) : List Int := digsF n n
theorem digsF_more (n : Nat) : ∀ f g, n ≤ f → n ≤ g → digsF f n = digsF g n := by
  induction n using Nat.strongRecOn with
  | _ n ih =>
    intro f g hf hg
    cases f with
    | zero =>
      obtain rfl : n = 0 := by omega
      cases g <;> simp [digsF]
    | succ f =>
      cases g with
      | zero =>
        obtain rfl : n = 0 := by omega
        simp [digsF]
      | succ g =>
        simp only [digsF]
        by_cases h : n = 0
        · rw [if_pos h, if_pos h]
        · rw [if_neg h, if_neg h, ih (n / 65536) (by omega) f g (by omega) (by omega)]
def Dg (l : List Int) : Prop := ∀ d, d ∈ l → 0 ≤ d ∧ d < 65536
theorem digs_zero : digs 0 = [] := rfl
theorem digs_pos {n : Nat} (h : 0 < n) : digs n = ((n % 65536 : Nat) : Int) :: digs (n / 65536) := by
  obtain ⟨m, rfl⟩ : ∃ m, n = m + 1 := ⟨n - 1, by omega⟩
  unfold digs
  rw [digsF, if_neg (by omega), digsF_more _ m ((m + 1) / 65536) (by omega) (Nat.le_refl _)]
theorem val_digs (n : Nat) : val (digs n) = n := by
  induction n using Nat.strongRecOn with
  | _ n ih =>
    by_cases h : n = 0
    · subst h; rw [digs_zero]; rfl
    · rw [digs_pos (by omega)]
      simp only [val]
      rw [ih (n / 65536) (by omega)]
      omega
theorem good_digs (n : Nat) : Dg (digs n) := by
  induction n using Nat.strongRecOn with
  | _ n ih =>
    by_cases h : n = 0
    · subst h; rw [digs_zero]; intro d hd; cases hd
    · rw [digs_pos (by omega)]
      intro d hd
      rcases List.mem_cons.1 hd with rfl | hd
      · omega
      · exact ih _ (by omega) d hd
theorem good_nil : Dg [] := fun d hd => by cases hd
theorem good_cons {d : Int} {l : List Int} : Dg (d :: l) ↔ (0 ≤ d ∧ d < 65536) ∧ Dg l :=
  ⟨fun h => ⟨h d List.mem_cons_self, fun x hx => h x (List.mem_cons_of_mem _ hx)⟩, fun h x hx => by
    rcases List.mem_cons.1 hx with rfl | hx
    · exact h.1
    · exact h.2 x hx⟩
theorem good_append {l m : List Int} (h : Dg l) (h' : Dg m) : Dg (l ++ m) := fun d hd => by
  rcases List.mem_append.1 hd with hd | hd
  · exact h d hd
  · exact h' d hd
theorem good_snoc {l : List Int} {d : Int} (h : Dg l) (h0 : 0 ≤ d) (h1 : d < 65536) : Dg (l ++ [d]) :=
  good_append h (good_cons.2 ⟨⟨h0, h1⟩, good_nil⟩)
theorem pow_pos' (k : Nat) : 0 < (65536 : Int) ^ k := Int.pow_pos (by omega)
theorem pow_mono {m n : Nat} (h : m ≤ n) : (65536 : Int) ^ m ≤ 65536 ^ n := by
  have := Nat.pow_le_pow_right (n := 65536) (by omega) h
  have h2 : ((65536 ^ m : Nat) : Int) ≤ ((65536 ^ n : Nat) : Int) := Int.ofNat_le.2 this
  rw [Int.natCast_pow, Int.natCast_pow] at h2
  exact h2
theorem val_nonneg {l : List Int} (h : Dg l) : 0 ≤ val l := by
  induction l with
  | nil => simp [val]
  | cons d l ih =>
    obtain ⟨⟨h0, h1⟩, h2⟩ := good_cons.1 h
    have := ih h2
    simp only [val]; omega
theorem val_lt {l : List Int} (h : Dg l) : val l < 65536 ^ l.length := by
  induction l with
  | nil => simp [val]
  | cons d l ih =>
    obtain ⟨⟨h0, h1⟩, h2⟩ := good_cons.1 h
    have := ih h2
    simp only [val, List.length_cons]
    rw [Int.pow_succ]; omega
theorem val_append (l m : List Int) : val (l ++ m) = val l + 65536 ^ l.length * val m := by
  induction l with
  | nil => simp [val]
  | cons d l ih =>
    simp only [List.cons_append, val, List.length_cons, ih]
    rw [Int.pow_succ, Int.mul_add, ← Int.mul_assoc, Int.mul_comm 65536 (65536 ^ l.length)]; omega
theorem val_snoc (l : List Int) (d : Int) : val (l ++ [d]) = val l + 65536 ^ l.length * d := by
  rw [val_append]; simp [val]
theorem digs_val {l : List Int} (h : Dg l) (hc : ∀ x, l.getLast? = some x → x ≠ 0) : digs (val l).toNat = l := by
  induction l with
  | nil => simp [val, digs_zero]
  | cons d l ih =>
    obtain ⟨⟨h0, h1⟩, h2⟩ := good_cons.1 h
    have hn := val_nonneg h2
    have hpos : 0 < (val (d :: l)).toNat := by
      simp only [val]
      cases l with
      | nil =>
        have := hc d (by simp)
        simp [val]; omega
      | cons e l =>
        rcases Int.lt_or_eq_of_le hn with hn | hn
        · omega
        · exfalso
          have hi := ih h2 (fun x hx => hc x (by rw [List.getLast?_cons_cons]; exact hx))
          rw [← hn] at hi
          simp [digs_zero] at hi
    rw [digs_pos hpos]
    have e1 : ((val (d :: l)).toNat % 65536 : Nat) = d.toNat := by simp only [val]; omega
    have e2 : (val (d :: l)).toNat / 65536 = (val l).toNat := by simp only [val]; omega
    rw [e1, e2]
    congr 1
    · omega
    · cases l with
      | nil => simp [val, digs_zero]
      | cons e l => exact ih h2 (fun x hx => hc x (by rw [List.getLast?_cons_cons]; exact hx))
theorem digs_len_le (n m : Nat) : (digs n).length ≤ m ↔ n < 65536 ^ m := by
  induction m generalizing n with
  | zero =>
    by_cases h : n = 0
    · subst h; simp [digs_zero]
    · rw [digs_pos (by omega)]; simp; omega
  | succ m ih =>
    by_cases h : n = 0
    · subst h; simp [digs_zero]; exact Nat.pow_pos (by omega)
    · rw [digs_pos (by omega)]
      simp only [List.length_cons, Nat.add_le_add_iff_right]
      rw [ih, Nat.pow_succ, Nat.div_lt_iff_lt_mul (by omega)]
def dig (l : List Int) (i : Nat) : Int := l.getD i 0
theorem dig_cons_zero (d : Int) (l : List Int) : dig (d :: l) 0 = d := rfl
theorem dig_cons_succ (d : Int) (l : List Int) (i : Nat) : dig (d :: l) (i + 1) = dig l i := by simp [dig]
theorem dig_behind {l : List Int} {i : Nat} (h : l.length ≤ i) : dig l i = 0 := by
  simp [dig, List.getD_eq_getElem?_getD, List.getElem?_eq_none h]
theorem dig_good {l : List Int} (h : Dg l) (i : Nat) : 0 ≤ dig l i ∧ dig l i < 65536 := by
  by_cases hi : i < l.length
  · have : dig l i = l[i] := by simp [dig, List.getD_eq_getElem?_getD, List.getElem?_eq_getElem hi]
    rw [this]; exact h _ (List.getElem_mem hi)
  · rw [dig_behind (by omega)]; omega
theorem dig_val {l : List Int} (h : Dg l) (i : Nat) : dig l i = val l / 65536 ^ i % 65536 := by
  induction l generalizing i with
  | nil => simp [dig, val]
  | cons d l ih =>
    obtain ⟨⟨h0, h1⟩, h2⟩ := good_cons.1 h
    cases i with
    | zero => simp only [dig_cons_zero, val, Int.pow_zero, Int.ediv_one]; omega
    | succ i =>
      rw [dig_cons_succ, ih h2, Int.pow_succ, Int.mul_comm, ← Int.ediv_ediv_of_nonneg (by omega)]
      congr 2
      simp only [val]; omega
theorem dig_digs (n i : Nat) : dig (digs n) i = ((n / 65536 ^ i % 65536 : Nat) : Int) := by
  rw [dig_val (good_digs n), val_digs]
  simp [Int.natCast_ediv, Int.natCast_emod, Int.natCast_pow]
theorem val_set {l : List Int} {i : Nat} (hi : i < l.length) (x : Int) : val (l.set i x) = val l + 65536 ^ i * (x - dig l i) := by
  induction l generalizing i with
  | nil => simp at hi
  | cons d l ih =>
    cases i with
    | zero => simp only [List.set_cons_zero, val, dig_cons_zero, Int.pow_zero]; omega
    | succ i =>
      simp only [List.length_cons] at hi
      simp only [List.set_cons_succ, val, dig_cons_succ]
      rw [ih (by omega), Int.pow_succ, Int.mul_add, ← Int.mul_assoc, Int.mul_comm 65536 (65536 ^ i)]; omega
theorem good_set {l : List Int} (h : Dg l) (i : Nat) {x : Int} (h0 : 0 ≤ x) (h1 : x < 65536) : Dg (l.set i x) := fun d hd => by
  rcases List.mem_or_eq_of_mem_set hd with hd | rfl
  · exact h d hd
  · exact ⟨h0, h1⟩
theorem val_replicate (n : Nat) : val (List.replicate n 0) = 0 := by
  induction n with
  | zero => rfl
  | succ n ih => simp [List.replicate_succ, val, ih]
theorem good_replicate (n : Nat) : Dg (List.replicate n 0) := fun d hd => by
  rw [List.mem_replicate] at hd; omega
end Go.Proofs.YteipfcflijdapaaDoor.Digs
end
