import Derived.Test.YtogdooclldoomaaNat4
import Derived.Test.YtogdooclldoomaaFLaw01small
import Derived.Test.YtogdooclldoomaaFLaw01big
import Derived.Test.YtogdooclldoomaaFLaw01alive
namespace Go.Proofs.Ytogdooclldoomaa.N
open Go Go.RowKit Go.Proofs.Ytogdooclldoomaa.F Go.Proofs.YtogdooclldoomaaW.PrintWords Go.Proofs.YtogdooclldoomaaW.PrintLast Go.Proofs.YtogdooclldoomaaW.PrintMore Go.Proofs.Ytogdooclldoomaa.Digs

theorem wd (n : Nat) (h : n < 18446744073709551616) : Wd (n : Int) := ⟨by omega, by omega⟩
theorem small_yes (n : Nat) (h : n < 18446744073709551616) (x : Int) (hx : x = n) : Ev (fun k => tombolalaw01_small.f k x true (digs n)) true := by
  subst hx
  unfold tombolalaw01_small.f
  exact Ev.bindN (word_ev n h) (by simp)
theorem small_no (n : Nat) (h : 18446744073709551616 ≤ n) : Ev (fun k => tombolalaw01_small.f k 0 false (digs n)) true := by
  unfold tombolalaw01_small.f
  exact Ev.bindN (word_no n h) (by simp)
theorem big_yes (n : Nat) (h : n < 340282366920938463463374607431768211456) (x y : Int) (hx : x = ((n / 18446744073709551616 : Nat) : Int)) (hy : y = ((n % 18446744073709551616 : Nat) : Int)) :
    Ev (fun k => tombolalaw01_big.f k x y true (digs n)) true := by
  subst hx hy
  unfold tombolalaw01_big.f
  exact Ev.bindN (back_ev n h) (by simp)
theorem big_no (n : Nat) (h : 340282366920938463463374607431768211456 ≤ n) : Ev (fun k => tombolalaw01_big.f k 0 0 false (digs n)) true := by
  unfold tombolalaw01_big.f
  exact Ev.bindN (back_no n h) (by simp)
theorem alive01_ev : Ev (fun k => tombolalaw01_alive.f k) true := by
  unfold tombolalaw01_alive.f
  have h1 := mulw_eq (a := 4294967296) (b := 4294967296) ⟨by decide, by decide⟩ ⟨by decide, by decide⟩
  have h2 := full_eq (a := 4294967296) (b := 4294967296) ⟨by decide, by decide⟩ ⟨by decide, by decide⟩
  have h3 := divw_ev 1 0 3 (by decide) (by decide) (by decide) (by decide)
  rw [if_neg (by decide)] at h1
  rw [h1, h2]
  simp only [Option.bind_some]
  refine Ev.bindN h3 ?_
  decide
/-- A sum of words. -/
theorem add_nat (a b : Nat) (ha : a < 18446744073709551616) (hb : b < 18446744073709551616) :
    wide_Add.f a b = some (if a + b < 18446744073709551616 then (((a + b : Nat) : Int), true) else (0, false)) := by
  rw [addw_eq (wd a ha) (wd b hb)]
  by_cases h : a + b < 18446744073709551616
  · rw [if_pos h, if_pos (by omega), Int.natCast_add]
  · rw [if_neg h, if_neg (by omega)]
theorem mul_nat (a b : Nat) (ha : a < 18446744073709551616) (hb : b < 18446744073709551616) :
    wide_Mul.f a b = some (if a * b < 18446744073709551616 then (((a * b : Nat) : Int), true) else (0, false)) := by
  rw [mulw_eq (wd a ha) (wd b hb), ← Int.natCast_mul]
  by_cases h : a * b < 18446744073709551616
  · rw [if_pos h, if_pos (by omega)]
  · rw [if_neg h, if_neg (by omega)]
theorem full_nat (a b : Nat) (ha : a < 18446744073709551616) (hb : b < 18446744073709551616) :
    wide_Full.f a b = some (((a * b / 18446744073709551616 : Nat) : Int), ((a * b % 18446744073709551616 : Nat) : Int)) := by
  rw [full_eq (wd a ha) (wd b hb), ← Int.natCast_mul]
  simp only [Int.natCast_ediv, Int.natCast_emod]
  rfl
theorem prod_lt (a b : Nat) (ha : a < 18446744073709551616) (hb : b < 18446744073709551616) : a * b < 340282366920938463463374607431768211456 := by
  have h1 : a * b ≤ 18446744073709551615 * b := Nat.mul_le_mul_right _ (by omega)
  omega
end Go.Proofs.Ytogdooclldoomaa.N
