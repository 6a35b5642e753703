-- Cut for this claim by a program (wip/prune.py) out of the texts that its bench laid or wrote
import Derived.Test.YtocgbbhppegccaaDoorJP5
import Derived.Test.YtocgbbhppegccaaDoorFRef29A
namespace Go.Proofs.YtocgbbhppegccaaDoor.N
open Go Go.RowKit Go.Proofs.YtocgbbhppegccaaDoor.F Go.Proofs.YtocgbbhppegccaaDoorW.PrintWords Go.Proofs.YtocgbbhppegccaaDoorW.PrintLast Go.Proofs.YtocgbbhppegccaaDoorW.PrintMore
set_option linter.unusedSimpArgs false
set_option linter.unusedVariables false
def OpOk (o : S29) : Prop := knownI o.f0 ∧ (-9223372036854775808 ≤ o.f1 ∧ o.f1 < 9223372036854775808) ∧ (-9223372036854775808 ≤ o.f2 ∧ o.f2 < 9223372036854775808) ∧ (-9223372036854775808 ≤ o.f3 ∧ o.f3 < 9223372036854775808)
def fr (s : Nat) (o : S29) : List Nat := frameN s o.f0 o.f1 o.f2 o.f3
def nx (s : Nat) (o : S29) : Nat := nextN s o.f0 o.f1 o.f2 o.f3
def layN : Nat → List S29 → List Nat × Nat
  | s, [] => ([], s)
  | s, o :: l => (fr s o ++ (layN (nx s o) l).1, (layN (nx s o) l).2)
theorem layN_cons (s : Nat) (o : S29) (l : List S29) : layN s (o :: l) = (fr s o ++ (layN (nx s o) l).1, (layN (nx s o) l).2) := rfl
theorem layN_nil (s : Nat) : layN s [] = ([], s) := rfl
theorem fr_length (s : Nat) (o : S29) : (fr s o).length = 33 := frameN_length ..
theorem fr_bytes (s : Nat) (o : S29) : Bytes (fr s o) := frameN_bytes _ _ _ _ _
theorem lay_length (l : List S29) (s : Nat) : (layN s l).1.length = 33 * l.length := by
  induction l generalizing s with
  | nil => rfl
  | cons o l ih => simp only [layN, List.length_append, fr_length, ih, List.length_cons]; omega
theorem lay_bytes (l : List S29) (s : Nat) : Bytes (layN s l).1 := by
  induction l generalizing s with
  | nil => intro x hx; cases hx
  | cons o l ih => exact Bytes.app (fr_bytes s o) (ih _)
theorem lay_snoc (l : List S29) : ∀ (s : Nat) (o : S29), layN s (l ++ [o]) = ((layN s l).1 ++ fr (layN s l).2 o, nx (layN s l).2 o) := by
  induction l with
  | nil => intro s o; rw [List.nil_append, layN_cons, layN_nil, layN_nil, List.append_nil, List.nil_append]
  | cons p l ih => intro s o; rw [List.cons_append, layN_cons, layN_cons, ih (nx s p) o, List.append_assoc]
theorem fr_parts (s : Nat) (o : S29) : fr s o = (bodyN o.f0 o.f1 o.f2 o.f3) ++ leN 8 (nx s o) := rfl
theorem take25 (s : Nat) (o : S29) (rest : List Nat) : (fr s o ++ rest).take 25 = bodyN o.f0 o.f1 o.f2 o.f3 := by
  rw [fr_parts, List.append_assoc, List.take_append_of_le_length (by rw [bodyN_length]; exact Nat.le_refl _), List.take_of_length_le (by rw [bodyN_length]; exact Nat.le_refl _)]
theorem drop25 (s : Nat) (o : S29) (rest : List Nat) : ((fr s o ++ rest).drop 25).take 8 = leN 8 (nx s o) := by
  have e : (fr s o ++ rest).drop 25 = leN 8 (nx s o) ++ rest := by
    rw [fr_parts, List.append_assoc]
    exact List.drop_left' (bodyN_length _ _ _ _)
  rw [e]
  exact List.take_left' (leN_length _ _)
theorem nx_eq (s : Nat) (o : S29) : nx s o = sumN sum0 (leN 8 s ++ bodyN o.f0 o.f1 o.f2 o.f3) := rfl
theorem nx_lt (s : Nat) (o : S29) : nx s o < 256 ^ 8 := Nat.lt_of_lt_of_le (nextN_lt s o.f0 o.f1 o.f2 o.f3) (by decide)
theorem body_at (a0 a1 a2 a3 : Int) (X : List Nat) : ((bodyN a0 a1 a2 a3 ++ X).drop 1).take 8 = leN 8 (uw a1) ∧ ((bodyN a0 a1 a2 a3 ++ X).drop 9).take 8 = leN 8 (uw a2) ∧ ((bodyN a0 a1 a2 a3 ++ X).drop 17).take 8 = leN 8 (uw a3) := by
  have e1 : (bodyN a0 a1 a2 a3 ++ X).drop 1 = leN 8 (uw a1) ++ (leN 8 (uw a2) ++ (leN 8 (uw a3) ++ X)) := by simp [bodyN]
  have e9 : (bodyN a0 a1 a2 a3 ++ X).drop 9 = leN 8 (uw a2) ++ (leN 8 (uw a3) ++ X) := by
    rw [show (9 : Nat) = 1 + 8 from rfl, ← List.drop_drop, e1]; exact List.drop_left' (leN_length _ _)
  have e17 : (bodyN a0 a1 a2 a3 ++ X).drop 17 = leN 8 (uw a3) ++ X := by
    rw [show (17 : Nat) = 9 + 8 from rfl, ← List.drop_drop, e9]; exact List.drop_left' (leN_length _ _)
  rw [e1, e9, e17]
  exact ⟨List.take_left' (leN_length _ _), List.take_left' (leN_length _ _), List.take_left' (leN_length _ _)⟩
theorem body0 (a0 a1 a2 a3 : Int) (X : List Nat) : (bodyN a0 a1 a2 a3 ++ X).getD 0 0 = (a0 % 256).toNat := by simp [bodyN]
theorem one_frame (s : Nat) (o : S29) (ho : OpOk o) (rest : List Nat) : oneN s (fr s o ++ rest) = some (o, nx s o) := by
  obtain ⟨hk, h1, h2, h3⟩ := ho
  have hk' := hk
  unfold knownI at hk'
  have e0 : (((fr s o ++ rest).getD 0 0 : Nat) : Int) = o.f0 := by rw [fr_parts, List.append_assoc, body0]; omega
  obtain ⟨q1, q2, q3⟩ := body_at o.f0 o.f1 o.f2 o.f3 (leN 8 (nx s o) ++ rest)
  rw [← List.append_assoc, ← fr_parts] at q1 q2 q3
  unfold oneN
  rw [if_neg (by rw [List.length_append, fr_length]; omega), e0, if_neg (by rw [name_iff]; exact fun q => q hk), take25, drop25, valN_leN 8 _ (nx_lt s o), if_pos (nx_eq s o), q1, q2, q3, ← nx_eq]
  have v : ∀ a : Int, valN (leN 8 (uw a)) = uw a := fun a => valN_leN 8 _ (Nat.lt_of_lt_of_le (uw_lt a) (by decide))
  rw [v, v, v, iw_uw _ h1, iw_uw _ h2, iw_uw _ h3]
theorem one_short (s : Nat) (m : List Nat) (h : m.length < 33) : oneN s m = none := by unfold oneN; rw [if_pos h]
theorem read_lay (l : List S29) : ∀ (s c cut : Nat), (∀ o, o ∈ l → OpOk o) → l.length < c → cut ≤ 33 * l.length → readN c s ((layN s l).1.take cut) = (l.take (cut / 33), cut / 33 * 33) := by
  induction l with
  | nil =>
    intro s c cut _ hc hcut
    obtain rfl : cut = 0 := by simp at hcut; omega
    obtain ⟨c, rfl⟩ : ∃ d, c = d + 1 := ⟨c - 1, by simp at hc; omega⟩
    rw [readN, one_short _ _ (by simp)]
    simp
  | cons o l ih =>
    intro s c cut hok hc hcut
    rw [List.length_cons] at hc hcut
    obtain ⟨c, rfl⟩ : ∃ d, c = d + 1 := ⟨c - 1, by omega⟩
    by_cases h : cut < 33
    · rw [readN, one_short _ _ (by rw [List.length_take]; omega), Nat.div_eq_of_lt h]; simp
    · have e : (layN s (o :: l)).1.take cut = fr s o ++ (layN (nx s o) l).1.take (cut - 33) := by
        simp only [layN]
        rw [List.take_append, fr_length, List.take_of_length_le (by rw [fr_length]; omega)]
      have ed : (fr s o ++ (layN (nx s o) l).1.take (cut - 33)).drop 33 = (layN (nx s o) l).1.take (cut - 33) := List.drop_left' (fr_length s o)
      have h' := ih (nx s o) c (cut - 33) (fun p hp => hok p (List.mem_cons_of_mem _ hp)) (by omega) (by omega)
      rw [e, readN, one_frame s o (hok o (List.mem_cons_self ..))]
      simp only [ed, h']
      have e3 : cut / 33 = (cut - 33) / 33 + 1 := by omega
      rw [e3, List.take_succ_cons]
      congr 1; omega
theorem set_split (l : List Nat) (p y : Nat) (h : p < l.length) : l = l.take p ++ l.getD p 0 :: l.drop (p + 1) ∧ l.set p y = l.take p ++ y :: l.drop (p + 1) := by
  constructor
  · conv => lhs; rw [← List.take_append_drop p l]
    rw [drop_getD l p h]
  · rw [List.set_eq_take_append_cons_drop, if_pos h]
theorem one_bad (s : Nat) (o : S29) (p y : Nat) (hp : p < 33) (hy : y < 256) (hne : (fr s o).getD p 0 ≠ y) (rest : List Nat) : oneN s ((fr s o).set p y ++ rest) = none := by
  unfold oneN
  rw [if_neg (by rw [List.length_append, List.length_set, fr_length]; omega)]
  by_cases hk : (nameOf ((((fr s o).set p y ++ rest).getD 0 0 : Nat) : Int)).toList = []
  · rw [if_pos hk]
  · rw [if_neg hk]
    have hB := bodyN_length o.f0 o.f1 o.f2 o.f3
    have hL := leN_length 8 (nx s o)
    refine if_neg ?_
    by_cases h25 : p < 25
    · have es : (fr s o).set p y = (bodyN o.f0 o.f1 o.f2 o.f3).set p y ++ leN 8 (nx s o) := by rw [fr_parts, List.set_append_left _ _ (by omega)]
      have hSl : ((bodyN o.f0 o.f1 o.f2 o.f3).set p y).length = 25 := by rw [List.length_set, hB]
      have t1 : ((fr s o).set p y ++ rest).take 25 = (bodyN o.f0 o.f1 o.f2 o.f3).set p y := by rw [es, List.append_assoc]; exact List.take_left' hSl
      have t2 : (((fr s o).set p y ++ rest).drop 25).take 8 = leN 8 (nx s o) := by
        rw [es, List.append_assoc, List.drop_left' hSl]; exact List.take_left' hL
      rw [t1, t2, valN_leN 8 _ (nx_lt s o), nx_eq]
      have g : (fr s o).getD p 0 = (bodyN o.f0 o.f1 o.f2 o.f3).getD p 0 := by rw [fr_parts, List.getD_eq_getElem?_getD, List.getD_eq_getElem?_getD, List.getElem?_append_left (by omega)]
      rw [g] at hne
      have hbb := bodyN_bytes o.f0 o.f1 o.f2 o.f3
      obtain ⟨c1, c2⟩ := set_split (bodyN o.f0 o.f1 o.f2 o.f3) p y (by omega)
      rw [c2]
      conv => rhs; lhs; rw [c1]
      rw [← List.append_assoc, ← List.append_assoc]
      exact sumN_other sum0 (by decide) _ _ _ _ (Bytes.app (leN_bytes _ _) (hbb.take p)) (hbb.drop _) (bytes_get hbb p) hy hne
    · have es : (fr s o).set p y = bodyN o.f0 o.f1 o.f2 o.f3 ++ (leN 8 (nx s o)).set (p - 25) y := by rw [fr_parts, List.set_append_right _ _ (by omega), hB]
      have hSl : ((leN 8 (nx s o)).set (p - 25) y).length = 8 := by rw [List.length_set, hL]
      have t1 : ((fr s o).set p y ++ rest).take 25 = bodyN o.f0 o.f1 o.f2 o.f3 := by rw [es, List.append_assoc]; exact List.take_left' hB
      have t2 : (((fr s o).set p y ++ rest).drop 25).take 8 = (leN 8 (nx s o)).set (p - 25) y := by
        rw [es, List.append_assoc, List.drop_left' hB]; exact List.take_left' hSl
      rw [t1, t2, ← nx_eq]
      intro he
      have g : (fr s o).getD p 0 = (leN 8 (nx s o)).getD (p - 25) 0 := by rw [fr_parts, List.getD_eq_getElem?_getD, List.getD_eq_getElem?_getD, List.getElem?_append_right (by omega), hB]
      rw [g] at hne
      have hbs : Bytes ((leN 8 (nx s o)).set (p - 25) y) := by
        intro x hx
        rcases List.mem_or_eq_of_mem_set hx with h | h
        · exact leN_bytes _ _ x h
        · rw [h]; exact hy
      have l1 := leN_valN _ hbs
      rw [hSl, he] at l1
      apply hne
      rw [l1, List.getD_eq_getElem?_getD, List.getElem?_set_self (by omega)]; rfl
theorem read_other (l : List S29) : ∀ (s c at_ y : Nat), (∀ o, o ∈ l → OpOk o) → l.length < c → at_ < 33 * l.length → y < 256 → (layN s l).1.getD at_ 0 ≠ y → readN c s ((layN s l).1.set at_ y) = (l.take (at_ / 33), at_ / 33 * 33) := by
  induction l with
  | nil => intro s c at_ y _ _ h; simp at h
  | cons o l ih =>
    intro s c at_ y hok hc hat hy hne
    rw [List.length_cons] at hc hat
    obtain ⟨c, rfl⟩ : ∃ d, c = d + 1 := ⟨c - 1, by omega⟩
    have hL := fr_length s o
    simp only [layN] at hne ⊢
    by_cases h : at_ < 33
    · rw [List.getD_eq_getElem?_getD, List.getElem?_append_left (by omega), ← List.getD_eq_getElem?_getD] at hne
      rw [List.set_append_left _ _ (by omega), readN, one_bad s o at_ y h hy hne, Nat.div_eq_of_lt h]; simp
    · rw [List.getD_eq_getElem?_getD, List.getElem?_append_right (by omega), ← List.getD_eq_getElem?_getD, hL] at hne
      have h' := ih (nx s o) c (at_ - 33) y (fun p hp => hok p (List.mem_cons_of_mem _ hp)) (by omega) (by omega) hy hne
      have ed : (fr s o ++ (layN (nx s o) l).1.set (at_ - 33) y).drop 33 = (layN (nx s o) l).1.set (at_ - 33) y := List.drop_left' hL
      rw [List.set_append_right _ _ (by omega), hL, readN, one_frame s o (hok o (List.mem_cons_self ..))]
      simp only [ed, h']
      have e3 : at_ / 33 = (at_ - 33) / 33 + 1 := by omega
      rw [e3, List.take_succ_cons]
      congr 1; omega
theorem ops_l0 (l : List S29) (hl : l.length < 1000000000) (d : Nat) : ∀ j : Nat, l.length - j = d → j ≤ l.length → Ev (fun k => tombolaref46_Ops.l0 k l l (j : Int)) true := by
  induction d with
  | zero =>
    intro j hd hj
    refine Ev.step (f := fun _ => some _) (fun k => ?_) (Ev.now _)
    simp only [tombolaref46_Ops.l0]
    rw [if_neg (by omega)]
  | succ d ih =>
    intro j hd hj
    refine Ev.step (fun k => ?_) (ih (j + 1) (by omega) (by omega))
    simp only [tombolaref46_Ops.l0]
    rw [if_pos (by omega), if_pos (by omega), if_pos (by omega), if_neg (by simp), i64w (by omega) (by omega)]
    rfl
theorem ops_ev (l : List S29) (hl : l.length < 1000000000) : Ev (fun k => tombolaref46_Ops.f k l l) true := by
  refine Ev.congr (fun k => ?_) (ops_l0 l hl _ 0 rfl (Nat.zero_le _))
  unfold tombolaref46_Ops.f
  rw [if_pos rfl]; rfl
end Go.Proofs.YtocgbbhppegccaaDoor.N
