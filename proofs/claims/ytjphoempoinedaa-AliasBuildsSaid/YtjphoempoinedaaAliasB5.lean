-- Cut for this claim by a program (wip/prune.py) out of the texts that its bench laid or wrote
import Derived.Test.YtjphoempoinedaaAliasB2
section
namespace Go.Proofs.Ytjphoempoinedaa.N
open Go Go.RowKit Go.Proofs.Ytjphoempoinedaa.F Go.Proofs.YtjphoempoinedaaW.PrintWords Go.Proofs.YtjphoempoinedaaW.PrintLast Go.Proofs.YtjphoempoinedaaW.PrintMore Go.Proofs.Ytjphoempoinedaa.Digs
set_option linter.unusedSimpArgs false
set_option linter.unusedVariables false
def Built (T n : Nat) (w c o : Nat → Nat) : Prop := (∀ j, j < n → c j ≤ T ∧ o j < n) ∧ ∀ i : Nat, i < n → cnt T c o (i : Int) n = w i
theorem BInv.done {T n : Nat} {w f c o : Nat → Nat} {P R : List Nat} (h : BInv T n w f c o P R) (he : P = [] ∨ R = []) : Built T n w c o := by
  have hP : P = [] := by
    rcases he with h1 | h1
    · exact h1
    · subst h1
      by_cases hP : P = []
      · exact hP
      · have h2 := sumL_lt T f P h.poor hP
        have h3 := h.sum
        have e : sumL f [] = 0 := rfl
        rw [e, List.length_nil, Nat.add_zero, Nat.add_zero] at h3
        omega
  subst hP
  have h3 := h.sum
  have e : sumL f [] = 0 := rfl
  rw [e, List.length_nil, Nat.zero_add, Nat.zero_add] at h3
  have hall := sumL_all T f R (fun q hq => (h.rich q hq).1) h3
  refine ⟨h.cols, fun i hi => ?_⟩
  have hk := h.cnt i hi
  rw [List.nil_append] at hk
  by_cases hm : i ∈ R
  · rw [if_pos hm, hall i hm] at hk; omega
  · rw [if_neg hm] at hk; omega
theorem build_l1 (T n : Nat) (w : Nat → Nat) (hT : T < 18446744073709551616) (hn : n ≤ 300) (d : Nat) : ∀ (P R : List Nat) (f c o : Nat → Nat), P.length + R.length = d → P.length + R.length ≤ n → BInv T n w f c o P R →
    ∃ c' o', Ev (fun k => alias_Build.l1 k (T : Int) (mkL n f) (ofN P) (ofN R) (T : Int) (mkC n c o)) ((T : Int), mkC n c' o', 0) ∧ Built T n w c' o' := by
  induction d using Nat.strongRecOn with
  | _ d ih =>
    intro P R f c o hd hle h
    by_cases hP : P = []
    · refine ⟨c, o, ?_, h.done (.inl hP)⟩
      subst hP
      refine Ev.step (f := fun k => alias_Build.j2 k (T : Int) (mkL n f) (ofN []) (ofN R) false (T : Int) (mkC n c o)) (fun k => ?_) ?_
      · simp only [alias_Build.l1]
        rw [if_neg (by simp [ofN])]
      · refine Ev.step (f := fun _ => some _) (fun k => ?_) (Ev.now _)
        simp only [alias_Build.j2]
        rw [if_neg (by decide)]
    · by_cases hR : R = []
      · refine ⟨c, o, ?_, h.done (.inr hR)⟩
        subst hR
        have hp0 : 0 < P.length := List.length_pos_iff.2 hP
        refine Ev.step (f := fun k => alias_Build.j2 k (T : Int) (mkL n f) (ofN P) (ofN []) false (T : Int) (mkC n c o)) (fun k => ?_) ?_
        · simp only [alias_Build.l1]
          rw [if_pos (by rw [ofN_length]; omega), decide_eq_false (by simp [ofN])]
        · refine Ev.step (f := fun _ => some _) (fun k => ?_) (Ev.now _)
          simp only [alias_Build.j2]
          rw [if_neg (by decide)]
      · obtain ⟨P, p, rfl⟩ := list_snoc P hP
        obtain ⟨R, q, rfl⟩ := list_snoc R hR
        clear hP hR
        rw [List.length_append, List.length_append, List.length_singleton, List.length_singleton] at hd hle
        have hp : p < n := h.lt p (by simp)
        have hq : q < n := h.lt q (by simp)
        have fp := h.poor p (by simp)
        obtain ⟨fq, fq2⟩ := h.rich q (by simp)
        have e1 : ((ofN (P ++ [p])).length : Int) = (P.length : Int) + 1 := by rw [ofN_length, List.length_append, List.length_singleton]; omega
        have e2 : ((ofN (R ++ [q])).length : Int) = (R.length : Int) + 1 := by rw [ofN_length, List.length_append, List.length_singleton]; omega
        have w1 : wrap64 ((P.length : Int) + 1 - 1) = (P.length : Int) := by rw [i64w (by omega) (by omega)]; omega
        have w2 : wrap64 ((R.length : Int) + 1 - 1) = (R.length : Int) := by rw [i64w (by omega) (by omega)]; omega
        have v1 : IntKind.u64.wrap ((T : Int) - (f p : Int)) = ((T - f p : Nat) : Int) := by rw [u64w (by omega) (by omega)]; omega
        have v2 : IntKind.u64.wrap ((f q : Int) - ((T - f p : Nat) : Int)) = ((f q - (T - f p) : Nat) : Int) := by rw [u64w (by omega) (by omega)]; omega
        have nd0 := h.nd
        have hstep : ∀ k, alias_Build.l1 (k + 2) (T : Int) (mkL n f) (ofN (P ++ [p])) (ofN (R ++ [q])) (T : Int) (mkC n c o) =
            if ((f q - (T - f p) : Nat) : Int) < (T : Int) then alias_Build.l1 k (T : Int) (mkL n (upd f q (f q - (T - f p)))) (ofN (P ++ [q])) (ofN R) (T : Int) (mkC n (upd c p (f p)) (upd o p q))
            else alias_Build.l1 k (T : Int) (mkL n (upd f q (f q - (T - f p)))) (ofN P) (ofN (R ++ [q])) (T : Int) (mkC n (upd c p (f p)) (upd o p q)) := by
          intro k
          rw [alias_Build.l1, if_pos (by rw [e1]; omega), decide_eq_true (by rw [e2]; omega), alias_Build.j2, if_pos rfl]
          simp only [Option.bind_some]
          simp only [e1, e2, w1, w2, rd_last, rd_mkL n f p hp, rd_mkL n f q hq, v1, v2, Int.toNat_natCast, take_last, set_mkC, set_mkL]
          rw [if_pos (Int.natCast_nonneg _), if_pos (by omega), if_pos (Int.natCast_nonneg _), if_pos (by omega), if_pos (by omega), if_pos (Int.natCast_nonneg _), if_pos (by rw [mkL_length]; omega), if_pos (by rw [mkC_length]; omega), if_pos (Int.natCast_nonneg _), if_pos (by rw [mkL_length]; omega)]
          by_cases hv : ((f q - (T - f p) : Nat) : Int) < (T : Int)
          · rw [if_pos hv, if_pos hv, if_pos (by omega), if_pos (by rw [ofN_length]; omega), ofN_snocB]
          · rw [if_neg hv, if_neg hv]
        have hnd0 := h.nd
        obtain ⟨n1, n2, n3⟩ := List.nodup_append.1 hnd0
        have n4 := List.nodup_append.1 n1
        have n5 := List.nodup_append.1 n2
        have fin : ∀ (P' R' : List Nat), BInv T n w (upd f q (f q - (T - f p))) (upd c p (f p)) (upd o p q) P' R' → P'.length + R'.length = P.length + R.length + 1 →
            (∀ k, alias_Build.l1 (k + 2) (T : Int) (mkL n f) (ofN (P ++ [p])) (ofN (R ++ [q])) (T : Int) (mkC n c o) = alias_Build.l1 k (T : Int) (mkL n (upd f q (f q - (T - f p)))) (ofN P') (ofN R') (T : Int) (mkC n (upd c p (f p)) (upd o p q))) →
            ∃ c' o', Ev (fun k => alias_Build.l1 k (T : Int) (mkL n f) (ofN (P ++ [p])) (ofN (R ++ [q])) (T : Int) (mkC n c o)) ((T : Int), mkC n c' o', 0) ∧ Built T n w c' o' := by
          intro P' R' hI hl hs
          obtain ⟨c', o', ⟨K, hK⟩, hB⟩ := ih _ (by omega) P' R' _ _ _ rfl (by omega) hI
          refine ⟨c', o', ⟨K + 2, fun k hk => ?_⟩, hB⟩
          obtain ⟨k, rfl⟩ : ∃ k', k = k' + 2 := ⟨k - 2, by omega⟩
          exact (hs k).trans (hK k (by omega))
        by_cases hv : f q - (T - f p) < T
        · refine fin (P ++ [q]) R (h.next ?_ ?_ ?_ ?_ ?_ ?_) (by rw [List.length_append, List.length_singleton]; omega) (fun k => by rw [hstep, if_pos (by omega)])
          · intro a
            simp only [List.mem_append, List.mem_singleton]
            constructor
            · rintro ((h1 | h1) | h1)
              · exact .inl h1
              · exact .inr (.inr h1)
              · exact .inr (.inl h1)
            · rintro (h1 | h1 | h1)
              · exact .inl (.inl h1)
              · exact .inr h1
              · exact .inl (.inr h1)
          · rw [List.append_assoc]
            refine List.nodup_append.2 ⟨n4.1, ?_, ?_⟩
            · rw [List.singleton_append, List.nodup_cons]
              exact ⟨fun e => n5.2.2 q e q (by simp) rfl, n5.1⟩
            · intro a ha b hb
              refine n3 a (by simp [ha]) b ?_
              simp only [List.singleton_append, List.mem_cons] at hb
              simp only [List.mem_append, List.mem_singleton]
              exact hb.symm
          · intro a ha
            simp only [List.mem_append, List.mem_singleton] at ha
            rcases ha with h1 | h1
            · exact .inl h1
            · exact .inr ⟨h1, hv⟩
          · intro a ha; exact .inl ha
          · intro g
            rw [sumL_append, sumL_one]; omega
          · rw [List.length_append, List.length_singleton]; omega
        · refine fin P (R ++ [q]) (h.next ?_ ?_ ?_ ?_ ?_ ?_) (by rw [List.length_append, List.length_singleton]; omega) (fun k => by rw [hstep, if_neg (by omega)])
          · intro a
            simp only [List.mem_append, List.mem_singleton]
          · refine List.nodup_append.2 ⟨n4.1, n2, ?_⟩
            intro a ha b hb
            exact n3 a (by simp [ha]) b hb
          · intro a ha; exact .inl ha
          · intro a ha
            simp only [List.mem_append, List.mem_singleton] at ha
            rcases ha with h1 | h1
            · exact .inl h1
            · exact .inr ⟨h1, by omega⟩
          · intro g
            rw [sumL_append, sumL_one]; omega
          · rw [List.length_append, List.length_singleton]; omega
end Go.Proofs.Ytjphoempoinedaa.N
end
section
namespace Go.Proofs.Ytjphoempoinedaa.N
open Go Go.RowKit Go.Proofs.Ytjphoempoinedaa.F Go.Proofs.YtjphoempoinedaaW.PrintWords Go.Proofs.YtjphoempoinedaaW.PrintLast Go.Proofs.YtjphoempoinedaaW.PrintMore Go.Proofs.Ytjphoempoinedaa.Digs
set_option linter.unusedSimpArgs false
set_option linter.unusedVariables false
def stg (j : Nat) (g : Nat → Nat) : Nat → Nat := fun k => if k < j then g k else 0
theorem stg_upd (j : Nat) (g : Nat → Nat) : upd (stg j g) j (g j) = stg (j + 1) g := by
  funext k
  unfold upd stg
  by_cases h : k = j
  · subst h
    rw [if_pos rfl, if_pos (Nat.lt_succ_self _)]
  · rw [if_neg h]
    by_cases h2 : k < j
    · rw [if_pos h2, if_pos (by omega)]
    · rw [if_neg h2, if_neg (by omega)]
theorem stg_at {n k : Nat} (g : Nat → Nat) (h : k < n) : stg n g k = g k := if_pos h
def poorL (T : Nat) (w : Nat → Nat) (j : Nat) : List Nat := (List.range j).filter fun k => decide (w k < T)
def richL (T : Nat) (w : Nat → Nat) (j : Nat) : List Nat := (List.range j).filter fun k => !(decide (w k < T))
theorem poor_succ (T : Nat) (w : Nat → Nat) (j : Nat) : poorL T w (j + 1) = if w j < T then poorL T w j ++ [j] else poorL T w j := by
  unfold poorL
  rw [List.range_succ, List.filter_append]
  by_cases h : w j < T
  · simp [h]
  · simp [h]
theorem rich_succ (T : Nat) (w : Nat → Nat) (j : Nat) : richL T w (j + 1) = if w j < T then richL T w j else richL T w j ++ [j] := by
  unfold richL
  rw [List.range_succ, List.filter_append]
  by_cases h : w j < T
  · simp [h]
  · simp [h, Nat.le_of_not_lt h]
theorem lens (T : Nat) (w : Nat → Nat) : ∀ j : Nat, (poorL T w j).length + (richL T w j).length = j := by
  intro j
  induction j with
  | zero => rfl
  | succ j ih =>
    rw [poor_succ, rich_succ]
    by_cases h : w j < T
    · rw [if_pos h, if_pos h, List.length_append, List.length_singleton]; omega
    · rw [if_neg h, if_neg h, List.length_append, List.length_singleton]; omega
def sumTo (w : Nat → Nat) : Nat → Nat
  | 0 => 0
  | j + 1 => sumTo w j + w j
theorem sums (T : Nat) (w : Nat → Nat) : ∀ j : Nat, sumL w (poorL T w j) + sumL w (richL T w j) = sumTo w j := by
  intro j
  induction j with
  | zero => rfl
  | succ j ih =>
    rw [poor_succ, rich_succ]
    show _ = sumTo w j + w j
    by_cases h : w j < T
    · rw [if_pos h, if_pos h, sumL_append, sumL_one]; omega
    · rw [if_neg h, if_neg h, sumL_append, sumL_one]; omega
theorem mem_poor {T : Nat} {w : Nat → Nat} {j a : Nat} : a ∈ poorL T w j ↔ a < j ∧ w a < T := by
  unfold poorL
  rw [List.mem_filter, List.mem_range, decide_eq_true_eq]
theorem mem_rich {T : Nat} {w : Nat → Nat} {j a : Nat} : a ∈ richL T w j ↔ a < j ∧ T ≤ w a := by
  unfold richL
  rw [List.mem_filter, List.mem_range, Bool.not_eq_true', decide_eq_false_iff_not, Nat.not_lt]
theorem cnt_first (T : Nat) (n i : Nat) (c o : Nat → Nat) (hc : ∀ j, j < n → c j = T ∧ o j = j) : ∀ j : Nat, j ≤ n → cnt T c o (i : Int) j = if i < j then T else 0 := by
  intro j
  induction j with
  | zero => intro _; rw [if_neg (Nat.not_lt_zero _)]; rfl
  | succ j ih =>
    intro hj
    obtain ⟨h1, h2⟩ := hc j (by omega)
    rw [cnt_gives, ih (by omega)]
    unfold gives
    rw [h1, h2, Nat.sub_self]
    by_cases e : j = i
    · subst e
      rw [if_pos rfl, if_pos rfl, if_neg (Nat.lt_irrefl _), if_pos (Nat.lt_succ_self _)]
      omega
    · rw [if_neg e, if_neg e]
      by_cases h3 : i < j
      · rw [if_pos h3, if_pos (by omega)]; rfl
      · rw [if_neg h3, if_neg (by omega)]
theorem sumL_congr {f g : Nat → Nat} {P : List Nat} (h : ∀ a, a ∈ P → f a = g a) : sumL f P = sumL g P := by
  unfold sumL
  rw [List.map_congr_left h]
theorem binv_first (T n : Nat) (w : Nat → Nat) (hs : sumTo w n = T * n) (hw : ∀ j, j < n → w j < 18446744073709551616) :
    BInv T n w (stg n w) (stg n fun _ => T) (stg n fun k => k) (poorL T w n) (richL T w n) := by
  have hmem : ∀ a, a ∈ poorL T w n ++ richL T w n ↔ a < n := by
    intro a
    rw [List.mem_append, mem_poor, mem_rich]
    omega
  refine ⟨?_, fun p hp => (hmem p).1 hp, ?_, ?_, ?_, ?_, ?_, ?_⟩
  · refine List.nodup_append.2 ⟨List.nodup_range.filter _, List.nodup_range.filter _, ?_⟩
    intro a ha b hb e
    subst e
    have h1 := (mem_poor.1 ha).2
    have h2 := (mem_rich.1 hb).2
    omega
  · intro p hp
    have := mem_poor.1 hp
    rw [stg_at _ this.1]; exact this.2
  · intro q hq
    have := mem_rich.1 hq
    rw [stg_at _ this.1]; exact ⟨this.2, hw q this.1⟩
  · rw [lens, sumL_congr (g := w) (fun a ha => stg_at _ (mem_poor.1 ha).1), sumL_congr (g := w) (fun a ha => stg_at _ (mem_rich.1 ha).1), sums, hs]
  · intro j hj
    rw [stg_at _ hj, stg_at _ hj]; exact ⟨Nat.le_refl _, hj⟩
  · intro j hj
    have := (hmem j).1 hj
    rw [stg_at _ this, stg_at _ this]; exact ⟨rfl, rfl⟩
  · intro i hi
    rw [cnt_first T n i _ _ (fun j hj => ⟨stg_at _ hj, stg_at _ hj⟩) n (Nat.le_refl _), if_pos hi, if_pos ((hmem i).2 hi), stg_at _ hi]
    omega
end Go.Proofs.Ytjphoempoinedaa.N
end
section
namespace Go.Proofs.Ytjphoempoinedaa.N
open Go Go.RowKit Go.Proofs.Ytjphoempoinedaa.F Go.Proofs.YtjphoempoinedaaW.PrintWords Go.Proofs.YtjphoempoinedaaW.PrintLast Go.Proofs.YtjphoempoinedaaW.PrintMore Go.Proofs.Ytjphoempoinedaa.Digs
set_option linter.unusedSimpArgs false
set_option linter.unusedVariables false
theorem build_l0 (T : Nat) (m : List Nat) (hm : Words m) (hn : m.length ≤ 300) (hfit : ∀ j, j < m.length → m.getD j 0 * m.length < 18446744073709551616) (res : Int × List S107 × Int) (d : Nat) : ∀ j : Nat, m.length - j = d → j ≤ m.length →
    Ev (fun k => alias_Build.l1 k (T : Int) (mkL m.length (stg m.length fun j => m.getD j 0 * m.length)) (ofN (poorL T (fun j => m.getD j 0 * m.length) m.length)) (ofN (richL T (fun j => m.getD j 0 * m.length) m.length)) (T : Int) (mkC m.length (stg m.length fun _ => T) (stg m.length fun k => k))) res →
    Ev (fun k => alias_Build.l0 k (ofN m) (T : Int) (mkL m.length (stg j fun j => m.getD j 0 * m.length)) (ofN (poorL T (fun j => m.getD j 0 * m.length) j)) (ofN (richL T (fun j => m.getD j 0 * m.length) j)) (ofN m) (m.length : Int) (j : Int) (T : Int) (mkC m.length (stg j fun _ => T) (stg j fun k => k))) res := by
  induction d with
  | zero =>
    intro j hd hj h
    obtain rfl : j = m.length := by omega
    refine Ev.step (fun k => ?_) h
    simp only [alias_Build.l0]
    rw [if_neg (by omega)]
  | succ d ih =>
    intro j hd hj h
    have hlt : j < m.length := by omega
    have hn2 := ih (j + 1) (by omega) (by omega) h
    have hf := hfit j hlt
    have c1 : (j : Int) < (m.length : Int) := by omega
    have w1 : wrap64 ((j : Int) + 1) = ((j + 1 : Nat) : Int) := by rw [i64w (by omega) (by omega)]; omega
    have w2 : IntKind.u64.wrap ((m.length : Int)) = (m.length : Int) := u64w (by omega) (by omega)
    have w3 : IntKind.u64.wrap (((m.getD j 0 : Nat) : Int) * (m.length : Int)) = ((m.getD j 0 * m.length : Nat) : Int) := by
      rw [← Int.natCast_mul]
      exact u64w (Int.natCast_nonneg _) (by omega)
    have s1 : upd (stg j fun j => m.getD j 0 * m.length) j (m.getD j 0 * m.length) = stg (j + 1) fun j => m.getD j 0 * m.length := stg_upd j (fun j => m.getD j 0 * m.length)
    have s2 : upd (stg j fun _ => T) j T = stg (j + 1) fun _ => T := stg_upd j (fun _ => T)
    have s3 : upd (stg j fun k => k) j j = stg (j + 1) fun k => k := stg_upd j (fun k => k)
    have r1 : rd (mkL m.length (stg (j + 1) fun j => m.getD j 0 * m.length)) (j : Int) = ((m.getD j 0 * m.length : Nat) : Int) := by
      rw [rd_mkL _ _ _ hlt, stg_at _ (Nat.lt_succ_self j)]
    have ls := lens T (fun j => m.getD j 0 * m.length) j
    rw [poor_succ, rich_succ] at hn2
    refine Ev.step (fun k => ?_) hn2
    simp only [alias_Build.l0]
    rw [if_pos c1, if_pos (Int.natCast_nonneg _), ofN_length, if_pos c1, mkC_length, if_pos c1, mkL_length]
    simp only [Option.bind_some, if_pos c1, Int.toNat_natCast, rd_ofN, w2, w3, set_mkC, set_mkL, s1, s2, s3, r1, w1]
    by_cases hv : m.getD j 0 * m.length < T
    · rw [if_pos (show ((m.getD j 0 * m.length : Nat) : Int) < (T : Int) by omega), if_pos (by rw [ofN_length]; omega), if_pos hv, if_pos hv, ofN_snocB]
    · rw [if_neg (show ¬ (((m.getD j 0 * m.length : Nat) : Int) < (T : Int)) by omega), if_pos (by rw [ofN_length]; omega), if_neg hv, if_neg hv, ofN_snocB]
end Go.Proofs.Ytjphoempoinedaa.N
end
