-- Cut for this claim by a program (wip/prune.py) out of the texts that its bench laid or wrote
import Derived.Test.YteipfcflijdapaaDoorEuclid
import Derived.Test.YteipfcflijdapaaDoorSpan
import Derived.Test.YteipfcflijdapaaDoorFEuclidA
import Derived.Test.YteipfcflijdapaaDoorFSlicesA
import Derived.Test.YteipfcflijdapaaDoorFRef02A
import Derived.Test.YteipfcflijdapaaDoorNat1
import Derived.Test.YteipfcflijdapaaDoorNat2
import Derived.Test.YteipfcflijdapaaDoorCtz
section
namespace Go.Proofs.YteipfcflijdapaaDoor.N
open Go Go.RowKit Go.Proofs.YteipfcflijdapaaDoor.F Go.Proofs.YteipfcflijdapaaDoorW.PrintWords Go.Proofs.YteipfcflijdapaaDoorW.PrintLast Go.Proofs.YteipfcflijdapaaDoorW.PrintMore Go.Proofs.YteipfcflijdapaaDoor.Digs
set_option linter.unusedSimpArgs false
set_option linter.unusedVariables false
theorem drop_getD (m : List Nat) (j : Nat) (h : j < m.length) : m.drop j = m.getD j 0 :: m.drop (j + 1) := by
  rw [List.drop_eq_getElem_cons h, List.getD_eq_getElem?_getD, List.getElem?_eq_getElem h]; rfl
theorem gcd_l0 (m : List Nat) (hm : Words m) (hl : m.length < 8796093022208) (d : Nat) : ∀ (j g : Nat), m.length - j = d → j ≤ m.length → g < 18446744073709551616 →
    Ev (fun k => euclid_Gcd.l0 k (g : Int) (ofN m) (m.length : Int) (j : Int)) (((m.drop j).foldl Nat.gcd g : Nat) : Int) := by
  induction d with
  | zero =>
    intro j g hd hj hg
    refine Ev.step (f := fun _ => some _) (fun k => ?_) (Ev.now _)
    simp only [euclid_Gcd.l0]
    rw [if_neg (by omega), List.drop_eq_nil_of_le (by omega)]; rfl
  | succ d ih =>
    intro j g hd hj hg
    have hlt : j < m.length := by omega
    rw [drop_getD m j hlt, List.foldl_cons]
    have hw := words_get hm j
    refine Ev.step (fun k => ?_) (Ev.bind (f := fun n t => euclid_Gcd.l0 n t (ofN m) (m.length : Int) ((j + 1 : Nat) : Int)) (two_ev g _ hg hw) (ih (j + 1) (Nat.gcd g (m.getD j 0)) (by omega) (by omega) (gcd_word _ _ hg hw)))
    simp only [euclid_Gcd.l0]
    rw [if_pos (by omega), if_pos (by omega), if_pos (by rw [ofN_length]; omega), rd_ofN, i64w (by omega) (by omega)]
    rfl
theorem gcdAll_ev (m : List Nat) (hm : Words m) (hl : m.length < 8796093022208) : Ev (fun k => euclid_Gcd.f k (ofN m)) ((m.foldl Nat.gcd 0 : Nat) : Int) := by
  have h := gcd_l0 m hm hl _ 0 0 rfl (Nat.zero_le _) (by omega)
  refine Ev.congr (fun k => ?_) h
  unfold euclid_Gcd.f
  rw [ofN_length]; rfl
theorem rall_l0 (m : List Nat) (hl : m.length < 8796093022208) (d : Nat) : ∀ (j g : Nat), m.length - j = d → j ≤ m.length →
    Ev (fun k => tombolaref02_All.l0 k (ofN m) (g : Int) (j : Int)) (((m.drop j).foldl Nat.gcd g : Nat) : Int) := by
  induction d with
  | zero =>
    intro j g hd hj
    refine Ev.step (f := fun _ => some _) (fun k => ?_) (Ev.now _)
    simp only [tombolaref02_All.l0]
    rw [if_neg (by rw [ofN_length]; omega), List.drop_eq_nil_of_le (by omega)]; rfl
  | succ d ih =>
    intro j g hd hj
    have hlt : j < m.length := by omega
    rw [drop_getD m j hlt, List.foldl_cons]
    refine Ev.step (fun k => ?_) (Ev.bind (f := fun n t => tombolaref02_All.l0 n (ofN m) t ((j + 1 : Nat) : Int)) (rgcd_ev g (m.getD j 0)) (ih (j + 1) (Nat.gcd g (m.getD j 0)) (by omega) (by omega)))
    simp only [tombolaref02_All.l0]
    rw [if_pos (by rw [ofN_length]; omega), if_pos (by omega), rd_ofN, i64w (by omega) (by omega)]
    rfl
theorem rall_ev (m : List Nat) (hl : m.length < 8796093022208) : Ev (fun k => tombolaref02_All.f k (ofN m)) ((m.foldl Nat.gcd 0 : Nat) : Int) :=
  rall_l0 m hl _ 0 0 rfl (Nat.zero_le _)
theorem index_l0 (m : List Nat) (hl : m.length < 8796093022208) (d : Nat) : ∀ (j : Nat), m.length - j = d → j ≤ m.length →
    ∃ r : Int, Ev (fun k => slices_Index_uint64_uint64.l0 k (ofN m) 0 (m.length : Int) (j : Int)) r ∧ (0 ≤ r ↔ 0 ∈ m.drop j) := by
  induction d with
  | zero =>
    intro j hd hj
    refine ⟨-1, Ev.step (f := fun _ => some _) (fun k => ?_) (Ev.now _), by rw [List.drop_eq_nil_of_le (by omega)]; simp⟩
    simp only [slices_Index_uint64_uint64.l0]
    rw [if_neg (by omega)]
  | succ d ih =>
    intro j hd hj
    have hlt : j < m.length := by omega
    rw [drop_getD m j hlt]
    by_cases h0 : m.getD j 0 = 0
    · refine ⟨(j : Int), Ev.step (f := fun _ => some _) (fun k => ?_) (Ev.now _), by rw [h0]; simp⟩
      simp only [slices_Index_uint64_uint64.l0]
      rw [if_pos (by omega), if_pos (by omega), if_pos (by rw [ofN_length]; omega), rd_ofN, if_pos (by rw [h0]; rfl)]
    · obtain ⟨r, hr, hi⟩ := ih (j + 1) (by omega) (by omega)
      refine ⟨r, Ev.step (fun k => ?_) hr, by rw [hi, List.mem_cons]; constructor <;> intro h <;> first | exact .inr h | exact h.resolve_left (fun e => h0 e.symm)⟩
      simp only [slices_Index_uint64_uint64.l0]
      rw [if_pos (by omega), if_pos (by omega), if_pos (by rw [ofN_length]; omega), rd_ofN, if_neg (by omega), i64w (by omega) (by omega)]
      rfl
theorem contains_ev (m : List Nat) (hl : m.length < 8796093022208) : Ev (fun k => slices_Contains_uint64_uint64.f k (ofN m) 0) (decide (0 ∈ m)) := by
  obtain ⟨r, hr, hi⟩ := index_l0 m hl _ 0 rfl (Nat.zero_le _)
  unfold slices_Contains_uint64_uint64.f
  refine Ev.bind (a := r) ?_ ?_
  · refine Ev.congr (fun k => ?_) hr
    unfold slices_Index_uint64_uint64.f
    rw [ofN_length]; rfl
  · have e : decide (r ≥ 0) = decide (0 ∈ m) := decide_eq_decide.2 (by rw [ge_iff_le, hi]; rfl)
    rw [e]; exact Ev.now _
def lcmW : Nat → List Nat → Nat × Bool
  | m, [] => (m, true)
  | m, x :: l => if m * (x / Nat.gcd m x) < 18446744073709551616 then lcmW (m * (x / Nat.gcd m x)) l else (0, false)
def lcmAll (l : List Nat) : Nat × Bool := if 0 ∈ l then (0, true) else lcmW 1 l
def nb (p : Nat × Bool) : Int × Bool := ((p.1 : Int), p.2)
theorem quot_pos (m x : Nat) (hm : 0 < m) (hx : x ≠ 0) : 0 < Nat.gcd m x ∧ 0 < m * (x / Nat.gcd m x) ∧ x / Nat.gcd m x ≤ x := by
  have hg : 0 < Nat.gcd m x := Nat.gcd_pos_of_pos_left _ hm
  have h : 0 < x / Nat.gcd m x := Nat.div_pos (Nat.le_of_dvd (by omega) (Nat.gcd_dvd_right _ _)) hg
  exact ⟨hg, Nat.mul_pos hm h, Nat.div_le_self _ _⟩
theorem lcm_l0 (l : List Nat) (hw : Words l) (hz : 0 ∉ l) (hl : l.length < 8796093022208) (d : Nat) : ∀ (j m : Nat), l.length - j = d → j ≤ l.length → 0 < m → m < 18446744073709551616 →
    Ev (fun k => euclid_Lcm.l0 k (m : Int) (ofN l) (l.length : Int) (j : Int)) (nb (lcmW m (l.drop j))) := by
  induction d with
  | zero =>
    intro j m hd hj hm hm64
    refine Ev.step (f := fun _ => some _) (fun k => ?_) (Ev.now _)
    simp only [euclid_Lcm.l0]
    rw [if_neg (by omega), List.drop_eq_nil_of_le (by omega)]; rfl
  | succ d ih =>
    intro j m hd hj hm hm64
    have hlt : j < l.length := by omega
    have hx := words_get hw j
    have hx0 : l.getD j 0 ≠ 0 := by
      intro h
      apply hz
      rw [List.getD_eq_getElem?_getD, List.getElem?_eq_getElem hlt] at h
      rw [← show l[j] = 0 from h]; exact List.getElem_mem _
    have hrd := rd_ofN l j
    rw [drop_getD l j hlt]
    generalize l.getD j 0 = x at hx hx0 hrd ⊢
    obtain ⟨g0, p0, q0⟩ := quot_pos m x hm hx0
    have hmul := mul_nat m (x / Nat.gcd m x) hm64 (by omega)
    have hg64 := gcd_word m x hm64 hx
    by_cases hfit : m * (x / Nat.gcd m x) < 18446744073709551616
    · rw [if_pos hfit] at hmul
      have e : lcmW m (x :: l.drop (j + 1)) = lcmW (m * (x / Nat.gcd m x)) (l.drop (j + 1)) := by rw [lcmW, if_pos hfit]
      rw [e]
      have h' := ih (j + 1) _ (by omega) (by omega) p0 hfit
      refine Ev.step (fun k => ?_) (Ev.bind (f := fun n t => if t = ((Nat.gcd m x : Nat) : Int) then euclid_Lcm.l0 n ((m * (x / Nat.gcd m x) : Nat) : Int) (ofN l) (l.length : Int) ((j + 1 : Nat) : Int) else
          (if t = 0 then none else ((wide_Mul.f (m : Int) (IntKind.u64.wrap (Int.tdiv (x : Int) t))).bind fun bt => if bt.2 = true then euclid_Lcm.l0 n bt.1 (ofN l) (l.length : Int) ((j + 1 : Nat) : Int) else some (0, false)))) (two_ev m x hm64 hx) (Ev.congr (fun k => if_pos rfl) h'))
      simp only [euclid_Lcm.l0]
      rw [if_pos (by omega), if_pos (by omega), if_pos (by rw [ofN_length]; omega), hrd, i64w (by omega) (by omega)]
      congr 1
      funext t
      by_cases ht : t = ((Nat.gcd m x : Nat) : Int)
      · subst ht
        rw [if_neg (by omega), if_pos rfl, tdiv_nat, u64n _ (by omega), hmul]; rfl
      · rw [if_neg ht]; rfl
    · rw [if_neg hfit] at hmul
      have e : lcmW m (x :: l.drop (j + 1)) = (0, false) := by rw [lcmW, if_neg hfit]
      rw [e]
      refine Ev.step (fun k => ?_) (Ev.bind (f := fun n t => if t = ((Nat.gcd m x : Nat) : Int) then some (0, false) else
          (if t = 0 then none else ((wide_Mul.f (m : Int) (IntKind.u64.wrap (Int.tdiv (x : Int) t))).bind fun bt => if bt.2 = true then euclid_Lcm.l0 n bt.1 (ofN l) (l.length : Int) ((j + 1 : Nat) : Int) else some (0, false)))) (two_ev m x hm64 hx) (Ev.congr (fun k => if_pos rfl) (Ev.now _)))
      simp only [euclid_Lcm.l0]
      rw [if_pos (by omega), if_pos (by omega), if_pos (by rw [ofN_length]; omega), hrd, i64w (by omega) (by omega)]
      congr 1
      funext t
      by_cases ht : t = ((Nat.gcd m x : Nat) : Int)
      · subst ht
        rw [if_neg (by omega), if_pos rfl, tdiv_nat, u64n _ (by omega), hmul]; rfl
      · rw [if_neg ht]; rfl
theorem lcm_ev (l : List Nat) (hw : Words l) (hl : l.length < 8796093022208) : Ev (fun k => euclid_Lcm.f k (ofN l)) (nb (lcmAll l)) := by
  unfold euclid_Lcm.f lcmAll
  refine Ev.bind (contains_ev l hl) ?_
  by_cases hz : 0 ∈ l
  · refine Ev.congr (fun k => ?_) (Ev.now _)
    rw [if_pos (decide_eq_true hz), if_pos hz]; rfl
  · rw [if_neg hz]
    refine Ev.congr (fun k => ?_) (lcm_l0 l hw hz hl _ 0 1 rfl (Nat.zero_le _) (by omega) (by omega))
    rw [if_neg (by simpa using hz), ofN_length]; rfl
theorem rlcm_l1 (l : List Nat) (hw : Words l) (hz : 0 ∉ l) (hl : l.length < 8796093022208) (d : Nat) : ∀ (j m : Nat), l.length - j = d → j ≤ l.length → 0 < m → m < 18446744073709551616 →
    Ev (fun k => tombolaref02_Lcm.l1 k (ofN l) (m : Int) (j : Int)) (nb (lcmW m (l.drop j))) := by
  induction d with
  | zero =>
    intro j m hd hj hm hm64
    refine Ev.step (f := fun _ => some _) (fun k => ?_) (Ev.now _)
    simp only [tombolaref02_Lcm.l1]
    rw [if_neg (by rw [ofN_length]; omega), List.drop_eq_nil_of_le (by omega)]; rfl
  | succ d ih =>
    intro j m hd hj hm hm64
    have hlt : j < l.length := by omega
    have hx := words_get hw j
    have hx0 : l.getD j 0 ≠ 0 := by
      intro h
      apply hz
      rw [List.getD_eq_getElem?_getD, List.getElem?_eq_getElem hlt] at h
      rw [← show l[j] = 0 from h]; exact List.getElem_mem _
    have hrd := rd_ofN l j
    rw [drop_getD l j hlt]
    generalize l.getD j 0 = x at hx hx0 hrd ⊢
    obtain ⟨g0, p0, q0⟩ := quot_pos m x hm hx0
    have hg64 := gcd_word m x hm64 hx
    have l1 : (digs m).length ≤ 4 := u64_len hm64
    have l2 : (digs (x / Nat.gcd m x)).length ≤ 4 := u64_len (by omega)
    have E : ∀ r, Ev (fun k => (tombolaref01_Word.f k (digs (m * (x / Nat.gcd m x)))).bind fun bt114 => (if bt114.2 = true then (tombolaref02_Lcm.l1 k (ofN l) bt114.1 ((j + 1 : Nat) : Int)) else (some (0, false)))) r →
        Ev (fun k => tombolaref02_Lcm.l1 k (ofN l) (m : Int) (j : Int)) r := by
      intro r hr
      have h1 := Ev.bind (f := fun k t111 => (tombolaref01_Word.f k t111).bind fun bt114 => (if bt114.2 = true then (tombolaref02_Lcm.l1 k (ofN l) bt114.1 ((j + 1 : Nat) : Int)) else (some (0, false)))) (mul_ev m (x / Nat.gcd m x) (by omega) (by omega)) hr
      have h2 := Ev.bind (of_ev (x / Nat.gcd m x) (by omega)) (f := fun k t => (tombolaref01_Mul.f k (digs m) t).bind fun t111 => (tombolaref01_Word.f k t111).bind fun bt114 => (if bt114.2 = true then (tombolaref02_Lcm.l1 k (ofN l) bt114.1 ((j + 1 : Nat) : Int)) else (some (0, false)))) h1
      have h3 := Ev.bind (rgcd_ev m x) (f := fun k t => if t = 0 then none else (tombolaref01_Of.f k (IntKind.u64.wrap (Int.tdiv (x : Int) t))).bind fun t108 => (tombolaref01_Mul.f k (digs m) t108).bind fun t111 => (tombolaref01_Word.f k t111).bind fun bt114 => (if bt114.2 = true then (tombolaref02_Lcm.l1 k (ofN l) bt114.1 ((j + 1 : Nat) : Int)) else (some (0, false))))
        (Ev.congr (fun k => by rw [if_neg (by omega), tdiv_nat, u64n _ (by omega)]) h2)
      have h4 := Ev.bind (of_ev m hm64) (f := fun k t102 => (tombolaref02_Gcd.f k (m : Int) (x : Int)).bind fun t => if t = 0 then none else (tombolaref01_Of.f k (IntKind.u64.wrap (Int.tdiv (x : Int) t))).bind fun t108 => (tombolaref01_Mul.f k t102 t108).bind fun t111 => (tombolaref01_Word.f k t111).bind fun bt114 => (if bt114.2 = true then (tombolaref02_Lcm.l1 k (ofN l) bt114.1 ((j + 1 : Nat) : Int)) else (some (0, false)))) h3
      refine Ev.step (fun k => ?_) h4
      have c1 : (0 : Int) ≤ (j : Int) := by omega
      simp only [tombolaref02_Lcm.l1]
      rw [if_pos (by rw [ofN_length]; omega)]
      have c2 : wrap64 ((j : Int) + 1) = ((j + 1 : Nat) : Int) := by rw [i64w (by omega) (by omega)]; rfl
      have c3 : ∀ A B : Option (Int × Bool), (if (0 : Int) ≤ (j : Int) then A else B) = A := fun _ _ => if_pos c1
      congr 1
      funext t102
      rw [c3, hrd, c2]
    by_cases hfit : m * (x / Nat.gcd m x) < 18446744073709551616
    · have e : lcmW m (x :: l.drop (j + 1)) = lcmW (m * (x / Nat.gcd m x)) (l.drop (j + 1)) := by rw [lcmW, if_pos hfit]
      rw [e]
      refine E _ (Ev.bind (word_ev _ hfit) ?_)
      exact ih (j + 1) _ (by omega) (by omega) p0 hfit
    · have e : lcmW m (x :: l.drop (j + 1)) = (0, false) := by rw [lcmW, if_neg hfit]
      rw [e]
      exact E _ (Ev.bind (word_no _ (by omega)) (Ev.now _))
theorem rlcm_l0 (l : List Nat) (hw : Words l) (hl : l.length < 8796093022208) (d : Nat) : ∀ (j : Nat), l.length - j = d → j ≤ l.length → 0 ∉ l.take j →
    Ev (fun k => tombolaref02_Lcm.l0 k (ofN l) (j : Int)) (nb (lcmAll l)) := by
  induction d with
  | zero =>
    intro j hd hj hz
    rw [List.take_of_length_le (by omega)] at hz
    have h := rlcm_l1 l hw hz hl _ 0 1 rfl (Nat.zero_le _) (by omega) (by omega)
    unfold lcmAll
    rw [if_neg hz]
    refine Ev.step (fun k => ?_) h
    simp only [tombolaref02_Lcm.l0]
    rw [if_neg (by rw [ofN_length]; omega)]; rfl
  | succ d ih =>
    intro j hd hj hz
    have hlt : j < l.length := by omega
    have hrd := rd_ofN l j
    have hg : l.getD j 0 = l[j] := by rw [List.getD_eq_getElem?_getD, List.getElem?_eq_getElem hlt]; rfl
    by_cases h0 : l.getD j 0 = 0
    · have hin : 0 ∈ l := by rw [← h0, hg]; exact List.getElem_mem _
      unfold lcmAll
      rw [if_pos hin]
      refine Ev.step (f := fun _ => some _) (fun k => ?_) (Ev.now _)
      simp only [tombolaref02_Lcm.l0]
      rw [if_pos (by rw [ofN_length]; omega), if_pos (by omega), hrd, if_pos (by rw [h0]; rfl)]; rfl
    · have hz' : 0 ∉ l.take (j + 1) := by
        rw [List.take_succ_eq_append_getElem hlt, List.mem_append]
        rintro (h | h)
        · exact hz h
        · rw [List.mem_singleton] at h; exact h0 (hg.trans h.symm)
      refine Ev.step (fun k => ?_) (ih (j + 1) (by omega) (by omega) hz')
      simp only [tombolaref02_Lcm.l0]
      rw [if_pos (by rw [ofN_length]; omega), if_pos (by omega), hrd, if_neg (by omega), i64w (by omega) (by omega)]
      rfl
theorem rlcm_ev (l : List Nat) (hw : Words l) (hl : l.length < 8796093022208) : Ev (fun k => tombolaref02_Lcm.f k (ofN l)) (nb (lcmAll l)) :=
  rlcm_l0 l hw hl _ 0 rfl (Nat.zero_le _) (by simp)
theorem reduce_ev (a b : Nat) (ha : a < 18446744073709551616) (hb : b < 18446744073709551616) :
    Ev (fun k => euclid_Reduce.f k (a : Int) (b : Int)) (if Nat.gcd a b = 0 then ((a : Int), (b : Int)) else (((a / Nat.gcd a b : Nat) : Int), ((b / Nat.gcd a b : Nat) : Int))) := by
  unfold euclid_Reduce.f
  refine Ev.bind (two_ev a b ha hb) ?_
  have h1 : a / Nat.gcd a b ≤ a := Nat.div_le_self _ _
  have h2 : b / Nat.gcd a b ≤ b := Nat.div_le_self _ _
  by_cases h : Nat.gcd a b = 0
  · rw [if_pos h]
    refine Ev.congr (fun k => ?_) (Ev.now _)
    rw [if_neg (by omega)]
  · rw [if_neg h]
    refine Ev.congr (fun k => ?_) (Ev.now _)
    rw [if_pos (by omega), if_neg (by omega), tdiv_nat, tdiv_nat, u64n _ (by omega), u64n _ (by omega)]
end Go.Proofs.YteipfcflijdapaaDoor.N
end
section
namespace Go.Proofs.YteipfcflijdapaaDoor.N
open Go Go.RowKit Go.Proofs.YteipfcflijdapaaDoor.F Go.Proofs.YteipfcflijdapaaDoorW.PrintWords Go.Proofs.YteipfcflijdapaaDoorW.PrintLast Go.Proofs.YteipfcflijdapaaDoorW.PrintMore Go.Proofs.YteipfcflijdapaaDoor.Digs
set_option linter.unusedSimpArgs false
set_option linter.unusedVariables false
end Go.Proofs.YteipfcflijdapaaDoor.N
end
section
namespace Go.Proofs.YteipfcflijdapaaDoor.N
open Go Go.RowKit Go.Proofs.YteipfcflijdapaaDoor.F Go.Proofs.YteipfcflijdapaaDoorW.PrintWords Go.Proofs.YteipfcflijdapaaDoorW.PrintLast Go.Proofs.YteipfcflijdapaaDoorW.PrintMore Go.Proofs.YteipfcflijdapaaDoor.Digs
set_option linter.unusedSimpArgs false
set_option linter.unusedVariables false
end Go.Proofs.YteipfcflijdapaaDoor.N
end
section
namespace Go.Proofs.YteipfcflijdapaaDoor.N
open Go Go.RowKit Go.Proofs.YteipfcflijdapaaDoor.F Go.Proofs.YteipfcflijdapaaDoorW.PrintWords Go.Proofs.YteipfcflijdapaaDoorW.PrintLast Go.Proofs.YteipfcflijdapaaDoorW.PrintMore Go.Proofs.YteipfcflijdapaaDoor.Digs
set_option linter.unusedSimpArgs false
set_option linter.unusedVariables false
theorem full_n (a b : Nat) (ha : a < 18446744073709551616) (hb : b < 18446744073709551616) : wide_Full.f a b = some (((a * b / 18446744073709551616 : Nat) : Int), ((a * b % 18446744073709551616 : Nat) : Int)) := by
  rw [full_eq ⟨by omega, by omega⟩ ⟨by omega, by omega⟩, ← Int.natCast_mul]
  congr 1
theorem prod_hi (a b : Nat) (ha : a < 18446744073709551616) (hb : b < 18446744073709551616) : a * b / 18446744073709551616 < 18446744073709551616 := by
  rw [Nat.div_lt_iff_lt_mul (by omega)]
  exact Nat.lt_of_le_of_lt (Nat.mul_le_mul (show a ≤ 18446744073709551615 by omega) (show b ≤ 18446744073709551615 by omega)) (by decide)
theorem mulMod_ev (a b m : Nat) (ha : a < 18446744073709551616) (hb : b < 18446744073709551616) (hm : 0 < m) (hm1 : m < 18446744073709551616) :
    Ev (fun k => euclid_MulMod.f k a b m) (((a * b % m : Nat) : Int), true) := by
  unfold euclid_MulMod.f
  rw [full_n a b ha hb]
  simp only [Option.bind_some]
  have h := divw_ev (a * b / 18446744073709551616) (a * b % 18446744073709551616) m (prod_hi a b ha hb) (Nat.mod_lt _ (by omega)) hm hm1
  have e : a * b / 18446744073709551616 * 18446744073709551616 + a * b % 18446744073709551616 = a * b := by omega
  rw [e] at h
  exact Ev.bind h (Ev.now _)
end Go.Proofs.YteipfcflijdapaaDoor.N
end
