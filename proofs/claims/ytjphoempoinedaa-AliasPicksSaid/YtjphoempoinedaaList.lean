-- Cut for this claim by a program (wip/prune.py) out of the texts that its bench laid or wrote
namespace Go.Proofs.Ytjphoempoinedaa.F
def firstAt {α : Type} (p : α → Bool) : List α → Int → Int
  | [], _ => -1
  | x :: l, i => if p x = true then i else firstAt p l (i + 1)
theorem firstAt_hit {α : Type} (p : α → Bool) (l : List α) (z : α) : ∀ (k : Nat) (i : Int), k < l.length → (∀ j, j < k → p (l.getD j z) = false) → p (l.getD k z) = true → firstAt p l i = i + k := by
  induction l with
  | nil => intro k i hk; simp at hk
  | cons x l ih =>
    intro k i hk hj hp
    cases k with
    | zero => simp only [firstAt]; rw [if_pos (by simpa using hp)]; simp
    | succ k =>
      have h0 : p x = false := by simpa using hj 0 (Nat.succ_pos _)
      simp only [firstAt]
      rw [if_neg (by rw [h0]; decide), ih k (i + 1) (by simpa using hk) (fun j hjk => by simpa using hj (j + 1) (by omega)) (by simpa using hp)]
      omega
theorem firstAt_miss {α : Type} (p : α → Bool) (l : List α) (z : α) : ∀ (i : Int), (∀ j, j < l.length → p (l.getD j z) = false) → firstAt p l i = -1 := by
  induction l with
  | nil => intro i _; rfl
  | cons x l ih =>
    intro i hj
    have h0 : p x = false := by simpa using hj 0 (Nat.succ_pos _)
    simp only [firstAt]
    rw [if_neg (by rw [h0]; decide)]
    exact ih (i + 1) (fun j hjl => by simpa using hj (j + 1) (by simpa using hjl))
end Go.Proofs.Ytjphoempoinedaa.F
