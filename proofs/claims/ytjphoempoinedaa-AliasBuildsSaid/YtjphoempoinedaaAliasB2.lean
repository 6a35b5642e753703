-- Cut for this claim by a program (wip/prune.py) out of the texts that its bench laid or wrote
import Derived.Test.YtjphoempoinedaaAliasC
import Derived.Test.YtjphoempoinedaaFAliasB
section
namespace Go.Proofs.Ytjphoempoinedaa.N
open Go Go.RowKit Go.Proofs.Ytjphoempoinedaa.F Go.Proofs.YtjphoempoinedaaW.PrintWords Go.Proofs.YtjphoempoinedaaW.PrintLast Go.Proofs.YtjphoempoinedaaW.PrintMore Go.Proofs.Ytjphoempoinedaa.Digs
set_option linter.unusedSimpArgs false
set_option linter.unusedVariables false
theorem ofN_snocB (m : List Nat) (x : Nat) : ofN (m ++ [x]) = ofN m ++ [(x : Int)] := by simp [ofN]
def mkL (n : Nat) (f : Nat → Nat) : List Int := (List.range n).map fun j => ((f j : Nat) : Int)
def mkC (n : Nat) (c o : Nat → Nat) : List S107 := (List.range n).map fun j => ⟨((c j : Nat) : Int), ((o j : Nat) : Int)⟩
def upd (f : Nat → Nat) (p x : Nat) : Nat → Nat := fun j => if j = p then x else f j
theorem mkL_length (n : Nat) (f : Nat → Nat) : (mkL n f).length = n := by simp [mkL]
theorem mkC_length (n : Nat) (c o : Nat → Nat) : (mkC n c o).length = n := by simp [mkC]
theorem rd_mkL (n : Nat) (f : Nat → Nat) (j : Nat) (h : j < n) : rd (mkL n f) (j : Int) = (f j : Int) := by
  unfold rd mkL
  rw [Int.toNat_natCast, List.getD_eq_getElem?_getD, List.getElem?_map, List.getElem?_range h]; rfl
theorem rd_mkC (n : Nat) (c o : Nat → Nat) (j : Nat) (h : j < n) : rd_T107 (mkC n c o) (j : Int) = ⟨(c j : Int), (o j : Int)⟩ := by
  unfold rd_T107 mkC
  rw [Int.toNat_natCast, List.getD_eq_getElem?_getD, List.getElem?_map, List.getElem?_range h]; rfl
theorem set_mkL (n : Nat) (f : Nat → Nat) (p x : Nat) : (mkL n f).set p (x : Int) = mkL n (upd f p x) := by
  unfold mkL
  apply List.ext_getElem (by simp)
  intro i h1 h2
  simp only [List.getElem_set, List.getElem_map, List.getElem_range]
  unfold upd
  by_cases h : p = i
  · rw [if_pos h, if_pos h.symm]
  · rw [if_neg h, if_neg (fun e => h e.symm)]
theorem set_mkC (n : Nat) (c o : Nat → Nat) (p x y : Nat) : (mkC n c o).set p ⟨(x : Int), (y : Int)⟩ = mkC n (upd c p x) (upd o p y) := by
  unfold mkC
  apply List.ext_getElem (by simp)
  intro i h1 h2
  simp only [List.getElem_set, List.getElem_map, List.getElem_range]
  unfold upd
  by_cases h : p = i
  · rw [if_pos h, if_pos h.symm, if_pos h.symm]
  · rw [if_neg h, if_neg (fun e => h e.symm), if_neg (fun e => h e.symm)]
def gives (T : Nat) (c o : Nat → Nat) (i j : Nat) : Nat := (if j = i then c j else 0) + (if o j = i then T - c j else 0)
theorem cnt_gives (T : Nat) (c o : Nat → Nat) (i j : Nat) : cnt T c o (i : Int) (j + 1) = cnt T c o (i : Int) j + gives T c o i j := by
  rw [cnt_succ]
  unfold gives
  simp only [Int.natCast_inj]
  omega
theorem cnt_upd (T : Nat) (c o : Nat → Nat) (i p x y : Nat) : ∀ n : Nat,
    cnt T (upd c p x) (upd o p y) (i : Int) n + (if p < n then gives T c o i p else 0) = cnt T c o (i : Int) n + (if p < n then gives T (upd c p x) (upd o p y) i p else 0) := by
  intro n
  induction n with
  | zero => rfl
  | succ n ih =>
    rw [cnt_gives, cnt_gives]
    by_cases h : n = p
    · subst h
      rw [if_neg (Nat.lt_irrefl _), if_neg (Nat.lt_irrefl _)] at ih
      rw [if_pos (Nat.lt_succ_self _), if_pos (Nat.lt_succ_self _)]
      omega
    · have e : gives T (upd c p x) (upd o p y) i n = gives T c o i n := by
        unfold gives upd
        rw [if_neg h, if_neg h]
      rw [e]
      by_cases h2 : p < n
      · rw [if_pos h2, if_pos h2] at ih
        rw [if_pos (by omega), if_pos (by omega)]
        omega
      · rw [if_neg h2, if_neg h2] at ih
        rw [if_neg (by omega), if_neg (by omega)]
        omega
def sumL (f : Nat → Nat) (P : List Nat) : Nat := (P.map f).sum
theorem sumL_append (f : Nat → Nat) (P R : List Nat) : sumL f (P ++ R) = sumL f P + sumL f R := by simp [sumL]
theorem sumL_one (f : Nat → Nat) (p : Nat) : sumL f [p] = f p := by simp [sumL]
theorem sumL_upd (f : Nat → Nat) (p x : Nat) (P : List Nat) (h : p ∉ P) : sumL (upd f p x) P = sumL f P := by
  unfold sumL
  congr 1
  apply List.map_congr_left
  intro a ha
  unfold upd
  rw [if_neg (fun (e : a = p) => h (e ▸ ha))]
end Go.Proofs.Ytjphoempoinedaa.N
end
section
namespace Go.Proofs.Ytjphoempoinedaa.N
open Go Go.RowKit Go.Proofs.Ytjphoempoinedaa.F Go.Proofs.YtjphoempoinedaaW.PrintWords Go.Proofs.YtjphoempoinedaaW.PrintLast Go.Proofs.YtjphoempoinedaaW.PrintMore Go.Proofs.Ytjphoempoinedaa.Digs
set_option linter.unusedSimpArgs false
set_option linter.unusedVariables false
theorem sumL_lt (T : Nat) (f : Nat → Nat) : ∀ P : List Nat, (∀ p, p ∈ P → f p < T) → P ≠ [] → sumL f P < T * P.length := by
  intro P
  induction P with
  | nil => intro _ h; exact absurd rfl h
  | cons a P ih =>
    intro h _
    have ha := h a List.mem_cons_self
    have e : sumL f (a :: P) = f a + sumL f P := by simp [sumL]
    have e2 : T * (a :: P).length = T * P.length + T := by rw [List.length_cons, Nat.mul_succ]
    rw [e, e2]
    by_cases hP : P = []
    · subst hP
      have : sumL f [] = 0 := rfl
      omega
    · have := ih (fun p hp => h p (List.mem_cons_of_mem _ hp)) hP
      omega
theorem sumL_ge (T : Nat) (f : Nat → Nat) : ∀ R : List Nat, (∀ q, q ∈ R → T ≤ f q) → T * R.length ≤ sumL f R := by
  intro R
  induction R with
  | nil => intro _; exact Nat.zero_le _
  | cons a R ih =>
    intro h
    have ha := h a List.mem_cons_self
    have e : sumL f (a :: R) = f a + sumL f R := by simp [sumL]
    have e2 : T * (a :: R).length = T * R.length + T := by rw [List.length_cons, Nat.mul_succ]
    have := ih (fun p hp => h p (List.mem_cons_of_mem _ hp))
    omega
theorem sumL_all (T : Nat) (f : Nat → Nat) : ∀ R : List Nat, (∀ q, q ∈ R → T ≤ f q) → sumL f R = T * R.length → ∀ q, q ∈ R → f q = T := by
  intro R
  induction R with
  | nil => intro _ _ q hq; exact absurd hq List.not_mem_nil
  | cons a R ih =>
    intro h hs q hq
    have ha := h a List.mem_cons_self
    have e : sumL f (a :: R) = f a + sumL f R := by simp [sumL]
    have e2 : T * (a :: R).length = T * R.length + T := by rw [List.length_cons, Nat.mul_succ]
    have hge := sumL_ge T f R (fun p hp => h p (List.mem_cons_of_mem _ hp))
    rcases List.mem_cons.1 hq with rfl | h2
    · omega
    · exact ih (fun p hp => h p (List.mem_cons_of_mem _ hp)) (by omega) q h2
theorem ofN_append (a b : List Nat) : ofN (a ++ b) = ofN a ++ ofN b := by simp [ofN]
theorem rd_last (P : List Nat) (p : Nat) : rd (ofN (P ++ [p])) (P.length : Int) = (p : Int) := by
  rw [rd_ofN, List.getD_eq_getElem?_getD, List.getElem?_append_right (Nat.le_refl _), Nat.sub_self]; rfl
theorem take_last (P : List Nat) (p : Nat) : (ofN (P ++ [p])).take P.length = ofN P := by
  rw [ofN_append, List.take_left' (ofN_length P)]
theorem list_snoc {α : Type} (l : List α) (h : l ≠ []) : ∃ l0 a, l = l0 ++ [a] := ⟨l.dropLast, l.getLast h, (List.dropLast_concat_getLast h).symm⟩
structure BInv (T n : Nat) (w f c o : Nat → Nat) (P R : List Nat) : Prop where
  nd : (P ++ R).Nodup
  lt : ∀ p, p ∈ P ++ R → p < n
  poor : ∀ p, p ∈ P → f p < T
  rich : ∀ q, q ∈ R → T ≤ f q ∧ f q < 18446744073709551616
  sum : sumL f P + sumL f R = T * (P.length + R.length)
  cols : ∀ j, j < n → c j ≤ T ∧ o j < n
  own : ∀ j, j ∈ P ++ R → c j = T ∧ o j = j
  cnt : ∀ i : Nat, i < n → cnt T c o (i : Int) n + (if i ∈ P ++ R then f i else T) = w i + T
theorem BInv.next {T n : Nat} {w f c o : Nat → Nat} {P R P' R' : List Nat} {p q : Nat} (h : BInv T n w f c o (P ++ [p]) (R ++ [q]))
    (hm : ∀ a, a ∈ P' ++ R' ↔ a ∈ P ∨ a ∈ R ∨ a = q) (hnd : (P' ++ R').Nodup) (hpoor : ∀ a, a ∈ P' → (a ∈ P ∨ a = q ∧ f q - (T - f p) < T)) (hrich : ∀ a, a ∈ R' → (a ∈ R ∨ a = q ∧ T ≤ f q - (T - f p)))
    (hs : ∀ g : Nat → Nat, sumL g P' + sumL g R' = sumL g P + sumL g R + g q) (hl : P'.length + R'.length = P.length + R.length + 1) :
    BInv T n w (upd f q (f q - (T - f p))) (upd c p (f p)) (upd o p q) P' R' := by
  have hp : p < n := h.lt p (by simp)
  have hq : q < n := h.lt q (by simp)
  have fp := h.poor p (by simp)
  obtain ⟨fq, fq2⟩ := h.rich q (by simp)
  have hnd0 := h.nd
  have hpP : p ∉ P ∧ p ∉ R ∧ p ≠ q ∧ q ∉ P ∧ q ∉ R := by
    have h1 := List.nodup_append.1 hnd0
    obtain ⟨n1, n2, n3⟩ := h1
    have n4 := List.nodup_append.1 n1
    have n5 := List.nodup_append.1 n2
    refine ⟨fun e => n4.2.2 p e p (by simp) rfl, fun e => n3 p (by simp) p (by simp [e]) rfl, fun e => n3 p (by simp) q (by simp) e, fun e => n3 q (by simp [e]) q (by simp) rfl, fun e => n5.2.2 q e q (by simp) rfl⟩
  obtain ⟨k1, k2, k3, k4, k5⟩ := hpP
  refine ⟨hnd, ?_, ?_, ?_, ?_, ?_, ?_, ?_⟩
  · intro a ha
    rcases (hm a).1 ha with h1 | h1 | rfl
    · exact h.lt a (by simp [h1])
    · exact h.lt a (by simp [h1])
    · exact hq
  · intro a ha
    unfold upd
    rcases hpoor a ha with h1 | ⟨rfl, h1⟩
    · rw [if_neg (fun (e : a = q) => k4 (e ▸ h1))]
      exact h.poor a (by simp [h1])
    · rw [if_pos rfl]; exact h1
  · intro a ha
    unfold upd
    rcases hrich a ha with h1 | ⟨rfl, h1⟩
    · rw [if_neg (fun (e : a = q) => k5 (e ▸ h1))]
      exact h.rich a (by simp [h1])
    · rw [if_pos rfl]; exact ⟨h1, by omega⟩
  · rw [hs, sumL_upd _ _ _ _ k4, sumL_upd _ _ _ _ k5, hl]
    have e := h.sum
    rw [sumL_append, sumL_append, sumL_one, sumL_one, List.length_append, List.length_append, List.length_singleton, List.length_singleton] at e
    have e2 : T * (P.length + 1 + (R.length + 1)) = T * (P.length + R.length + 1) + T := by
      rw [show P.length + 1 + (R.length + 1) = (P.length + R.length + 1) + 1 by omega, Nat.mul_succ]
    have e3 : upd f q (f q - (T - f p)) q = f q - (T - f p) := if_pos rfl
    rw [e3]
    omega
  · intro j hj
    unfold upd
    by_cases e : j = p
    · rw [if_pos e, if_pos e]; exact ⟨by omega, hq⟩
    · rw [if_neg e, if_neg e]; exact h.cols j hj
  · intro j hj
    have hjp : j ≠ p := by
      rintro rfl
      rcases (hm j).1 hj with h1 | h1 | h1
      · exact k1 h1
      · exact k2 h1
      · exact k3 h1
    unfold upd
    rw [if_neg hjp, if_neg hjp]
    rcases (hm j).1 hj with h1 | h1 | rfl
    · exact h.own j (by simp [h1])
    · exact h.own j (by simp [h1])
    · exact h.own j (by simp)
  · intro i hi
    have hc := cnt_upd T c o i p (f p) q n
    rw [if_pos hp, if_pos hp] at hc
    obtain ⟨o1, o2⟩ := h.own p (by simp)
    have g1 : gives T c o i p = if p = i then T else 0 := by
      unfold gives
      rw [o1, o2, Nat.sub_self]
      split <;> rfl
    have g2 : gives T (upd c p (f p)) (upd o p q) i p = (if p = i then f p else 0) + (if q = i then T - f p else 0) := by
      unfold gives upd
      rw [if_pos rfl, if_pos rfl]
    rw [g1, g2] at hc
    have hk := h.cnt i hi
    by_cases e1 : p = i
    · subst e1
      rw [if_pos rfl, if_pos rfl, if_neg (fun e => k3 e.symm)] at hc
      rw [if_pos (by simp)] at hk
      rw [if_neg (fun hmem => by
        rcases (hm p).1 hmem with h1 | h1 | h1
        · exact k1 h1
        · exact k2 h1
        · exact k3 h1)]
      omega
    · rw [if_neg e1, if_neg e1] at hc
      by_cases e2 : q = i
      · subst e2
        rw [if_pos rfl] at hc
        rw [if_pos (by simp)] at hk
        rw [if_pos ((hm q).2 (.inr (.inr rfl)))]
        have e3 : upd f q (f q - (T - f p)) q = f q - (T - f p) := if_pos rfl
        rw [e3]
        omega
      · rw [if_neg e2] at hc
        have e3 : upd f q (f q - (T - f p)) i = f i := if_neg (fun e => e2 e.symm)
        rw [e3]
        have hiff : (i ∈ P' ++ R') ↔ (i ∈ P ++ [p] ++ (R ++ [q])) := by
          rw [hm i]
          simp only [List.mem_append, List.mem_singleton]
          constructor
          · rintro (h1 | h1 | h1)
            · exact .inl (.inl h1)
            · exact .inr (.inl h1)
            · exact absurd h1.symm e2
          · rintro ((h1 | h1) | (h1 | h1))
            · exact .inl h1
            · exact absurd h1.symm e1
            · exact .inr (.inl h1)
            · exact absurd h1.symm e2
        by_cases hmem : i ∈ P ++ [p] ++ (R ++ [q])
        · rw [if_pos hmem] at hk
          rw [if_pos (hiff.2 hmem)]
          omega
        · rw [if_neg hmem] at hk
          rw [if_neg (fun e => hmem (hiff.1 e))]
          omega
end Go.Proofs.Ytjphoempoinedaa.N
end
