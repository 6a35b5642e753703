-- Cut for this claim by a program (wip/prune.py) out of the texts that its bench laid or wrote
namespace Go.Proofs.Ytjphoempoinedaa.Digs
def val : List Int → Int
  | [] => 0
  | d :: l => d + 65536 * val l
def digsF : Nat → Nat → List Int
  | 0, _ => []
  | f + 1, n => if n = 0 then [] else ((n % 65536 : Nat) : Int) :: digsF f (n / 65536)
def digs (n : Nat) : List Int := digsF n n
theorem digsF_more (n : Nat) : ∀ f g, n ≤ f → n ≤ g → digsF f n = digsF g n := by
  induction n using Nat.strongRecOn with
  | _ n ih =>
    intro f g hf hg
    cases f with
    | zero =>
      obtain rfl : n = 0 := by omega
      cases g <;> simp [digsF]
    | succ f =>
      cases g with
      | zero =>
        obtain rfl : n = 0 := by omega
        simp [digsF]
      | succ g =>
        simp only [digsF]
        by_cases h : n = 0
        · rw [if_pos h, if_pos h]
        · rw [if_neg h, if_neg h, ih (n / 65536) (by omega) f g (by omega) (by omega)]
def Dg (l : List Int) : Prop := ∀ d, d ∈ l → 0 ≤ d ∧ d < 65536
theorem digs_zero : digs 0 = [] := rfl
theorem digs_pos {n : Nat} (h : 0 < n) : digs n = ((n % 65536 : Nat) : Int) :: digs (n / 65536) := by
  obtain ⟨m, rfl⟩ : ∃ m, n = m + 1 := ⟨n - 1, by omega⟩
  unfold digs
  rw [digsF, if_neg (by omega), digsF_more _ m ((m + 1) / 65536) (by omega) (Nat.le_refl _)]
theorem val_digs (n : Nat) : val (digs n) = n := by
  induction n using Nat.strongRecOn with
  | _ n ih =>
    by_cases h : n = 0
    · subst h; rw [digs_zero]; rfl
    · rw [digs_pos (by omega)]
      simp only [val]
      rw [ih (n / 65536) (by omega)]
      omega
theorem good_digs (n : Nat) : Dg (digs n) := by
  induction n using Nat.strongRecOn with
  | _ n ih =>
    by_cases h : n = 0
    · subst h; rw [digs_zero]; intro d hd; cases hd
    · rw [digs_pos (by omega)]
      intro d hd
      rcases List.mem_cons.1 hd with rfl | hd
      · omega
      · exact ih _ (by omega) d hd
theorem good_nil : Dg [] := fun d hd => by cases hd
theorem good_cons {d : Int} {l : List Int} : Dg (d :: l) ↔ (0 ≤ d ∧ d < 65536) ∧ Dg l :=
  ⟨fun h => ⟨h d List.mem_cons_self, fun x hx => h x (List.mem_cons_of_mem _ hx)⟩, fun h x hx => by
    rcases List.mem_cons.1 hx with rfl | hx
    · exact h.1
    · exact h.2 x hx⟩
theorem good_append {l m : List Int} (h : Dg l) (h' : Dg m) : Dg (l ++ m) := fun d hd => by
  rcases List.mem_append.1 hd with hd | hd
  · exact h d hd
  · exact h' d hd
theorem good_snoc {l : List Int} {d : Int} (h : Dg l) (h0 : 0 ≤ d) (h1 : d < 65536) : Dg (l ++ [d]) :=
  good_append h (good_cons.2 ⟨⟨h0, h1⟩, good_nil⟩)
theorem pow_pos' (k : Nat) : 0 < (65536 : Int) ^ k := Int.pow_pos (by omega)
theorem pow_mono {m n : Nat} (h : m ≤ n) : (65536 : Int) ^ m ≤ 65536 ^ n := by
  have := Nat.pow_le_pow_right (n := 65536) (by omega) h
  have h2 : ((65536 ^ m : Nat) : Int) ≤ ((65536 ^ n : Nat) : Int) := Int.ofNat_le.2 this
  rw [Int.natCast_pow, Int.natCast_pow] at h2
  exact h2
theorem val_nonneg {l : List Int} (h : Dg l) : 0 ≤ val l := by
  induction l with
  | nil => simp [val]
  | cons d l ih =>
    obtain ⟨⟨h0, h1⟩, h2⟩ := good_cons.1 h
    have := ih h2
    simp only [val]; omega
theorem val_lt {l : List Int} (h : Dg l) : val l < 65536 ^ l.length := by
  induction l with
  | nil => simp [val]
  | cons d l ih =>
    obtain ⟨⟨h0, h1⟩, h2⟩ := good_cons.1 h
    have := ih h2
    simp only [val, List.length_cons]
    rw [Int.pow_succ]; omega
theorem val_append (l m : List Int) : val (l ++ m) = val l + 65536 ^ l.length * val m := by
  induction l with
  | nil => simp [val]
  | cons d l ih =>
    simp only [List.cons_append, val, List.length_cons, ih]
    rw [Int.pow_succ, Int.mul_add, ← Int.mul_assoc, Int.mul_comm 65536 (65536 ^ l.length)]; omega
theorem val_snoc (l : List Int) (d : Int) : val (l ++ [d]) = val l + 65536 ^ l.length * d := by
  rw [val_append]; simp [val]
theorem digs_val {l : List Int} (h : Dg l) (hc : ∀ x, l.getLast? = some x → x ≠ 0) : digs (val l).toNat = l := by
  induction l with
  | nil => simp [val, digs_zero]
  | cons d l ih =>
    obtain ⟨⟨h0, h1⟩, h2⟩ := good_cons.1 h
    have hn := val_nonneg h2
    have hpos : 0 < (val (d :: l)).toNat := by
      simp only [val]
      cases l with
      | nil =>
        have := hc d (by simp)
        simp [val]; omega
      | cons e l =>
        rcases Int.lt_or_eq_of_le hn with hn | hn
        · omega
        · exfalso
          have hi := ih h2 (fun x hx => hc x (by rw [List.getLast?_cons_cons]; exact hx))
          rw [← hn] at hi
          simp [digs_zero] at hi
    rw [digs_pos hpos]
    have e1 : ((val (d :: l)).toNat % 65536 : Nat) = d.toNat := by simp only [val]; omega
    have e2 : (val (d :: l)).toNat / 65536 = (val l).toNat := by simp only [val]; omega
    rw [e1, e2]
    congr 1
    · omega
    · cases l with
      | nil => simp [val, digs_zero]
      | cons e l => exact ih h2 (fun x hx => hc x (by rw [List.getLast?_cons_cons]; exact hx))
theorem digs_len_le (n m : Nat) : (digs n).length ≤ m ↔ n < 65536 ^ m := by
  induction m generalizing n with
  | zero =>
    by_cases h : n = 0
    · subst h; simp [digs_zero]
    · rw [digs_pos (by omega)]; simp; omega
  | succ m ih =>
    by_cases h : n = 0
    · subst h; simp [digs_zero]; exact Nat.pow_pos (by omega)
    · rw [digs_pos (by omega)]
      simp only [List.length_cons, Nat.add_le_add_iff_right]
      rw [ih, Nat.pow_succ, Nat.div_lt_iff_lt_mul (by omega)]
def dig (l : List Int) (i : Nat) : Int := l.getD i 0
theorem dig_cons_zero (d : Int) (l : List Int) : dig (d :: l) 0 = d := rfl
theorem dig_cons_succ (d : Int) (l : List Int) (i : Nat) : dig (d :: l) (i + 1) = dig l i := by simp [dig]
theorem dig_behind {l : List Int} {i : Nat} (h : l.length ≤ i) : dig l i = 0 := by
  simp [dig, List.getD_eq_getElem?_getD, List.getElem?_eq_none h]
theorem dig_good {l : List Int} (h : Dg l) (i : Nat) : 0 ≤ dig l i ∧ dig l i < 65536 := by
  by_cases hi : i < l.length
  · have : dig l i = l[i] := by simp [dig, List.getD_eq_getElem?_getD, List.getElem?_eq_getElem hi]
    rw [this]; exact h _ (List.getElem_mem hi)
  · rw [dig_behind (by omega)]; omega
theorem dig_val {l : List Int} (h : Dg l) (i : Nat) : dig l i = val l / 65536 ^ i % 65536 := by
  induction l generalizing i with
  | nil => simp [dig, val]
  | cons d l ih =>
    obtain ⟨⟨h0, h1⟩, h2⟩ := good_cons.1 h
    cases i with
    | zero => simp only [dig_cons_zero, val, Int.pow_zero, Int.ediv_one]; omega
    | succ i =>
      rw [dig_cons_succ, ih h2, Int.pow_succ, Int.mul_comm, ← Int.ediv_ediv_of_nonneg (by omega)]
      congr 2
      simp only [val]; omega
theorem dig_digs (n i : Nat) : dig (digs n) i = ((n / 65536 ^ i % 65536 : Nat) : Int) := by
  rw [dig_val (good_digs n), val_digs]
  simp [Int.natCast_ediv, Int.natCast_emod, Int.natCast_pow]
theorem val_set {l : List Int} {i : Nat} (hi : i < l.length) (x : Int) : val (l.set i x) = val l + 65536 ^ i * (x - dig l i) := by
  induction l generalizing i with
  | nil => simp at hi
  | cons d l ih =>
    cases i with
    | zero => simp only [List.set_cons_zero, val, dig_cons_zero, Int.pow_zero]; omega
    | succ i =>
      simp only [List.length_cons] at hi
      simp only [List.set_cons_succ, val, dig_cons_succ]
      rw [ih (by omega), Int.pow_succ, Int.mul_add, ← Int.mul_assoc, Int.mul_comm 65536 (65536 ^ i)]; omega
theorem good_set {l : List Int} (h : Dg l) (i : Nat) {x : Int} (h0 : 0 ≤ x) (h1 : x < 65536) : Dg (l.set i x) := fun d hd => by
  rcases List.mem_or_eq_of_mem_set hd with hd | rfl
  · exact h d hd
  · exact ⟨h0, h1⟩
theorem val_replicate (n : Nat) : val (List.replicate n 0) = 0 := by
  induction n with
  | zero => rfl
  | succ n ih => simp [List.replicate_succ, val, ih]
theorem good_replicate (n : Nat) : Dg (List.replicate n 0) := fun d hd => by
  rw [List.mem_replicate] at hd; omega
theorem val_take {l : List Int} (h : Dg l) (i : Nat) : val (l.take i) = val l % 65536 ^ i := by
  by_cases hi : i ≤ l.length
  · have hv := val_append (l.take i) (l.drop i)
    rw [List.take_append_drop, List.length_take, Nat.min_eq_left hi] at hv
    have hg : Dg (l.take i) := fun d hd => h d (List.mem_of_mem_take hd)
    have h1 := val_nonneg hg
    have h2 := val_lt hg
    rw [List.length_take, Nat.min_eq_left hi] at h2
    rw [hv, Int.add_mul_emod_self_left, Int.emod_eq_of_lt h1 h2]
  · rw [List.take_of_length_le (by omega), Int.emod_eq_of_lt (val_nonneg h)]
    refine Int.lt_of_lt_of_le (val_lt h) ?_
    exact pow_mono (by omega)
theorem val_drop {l : List Int} (h : Dg l) (i : Nat) : val (l.drop i) = val l / 65536 ^ i := by
  by_cases hi : i ≤ l.length
  · have hv := val_append (l.take i) (l.drop i)
    rw [List.take_append_drop, List.length_take, Nat.min_eq_left hi] at hv
    have hg : Dg (l.take i) := fun d hd => h d (List.mem_of_mem_take hd)
    have h1 := val_nonneg hg
    have h2 := val_lt hg
    rw [List.length_take, Nat.min_eq_left hi] at h2
    rw [hv, Int.add_mul_ediv_left _ _ (by have := pow_pos' i; omega), Int.ediv_eq_zero_of_lt h1 h2]; omega
  · rw [List.drop_of_length_le (by omega)]
    rw [Int.ediv_eq_zero_of_lt (val_nonneg h)]
    · rfl
    · refine Int.lt_of_lt_of_le (val_lt h) ?_
      exact pow_mono (by omega)
end Go.Proofs.Ytjphoempoinedaa.Digs
