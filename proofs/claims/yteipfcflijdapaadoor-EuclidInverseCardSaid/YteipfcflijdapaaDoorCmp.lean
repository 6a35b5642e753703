-- Cut for this claim by a program (wip/prune.py) out of the texts that its bench laid or wrote
import Derived.Test.YteipfcflijdapaaDoorCtz
import Derived.Test.YteipfcflijdapaaDoorFRef02A
import Derived.Test.YteipfcflijdapaaDoorEuclid
import Derived.Test.YteipfcflijdapaaDoorFEuclidA
import Derived.Test.YteipfcflijdapaaDoorFSlicesA
import Derived.Test.YteipfcflijdapaaDoorNat1
import Derived.Test.YteipfcflijdapaaDoorFRef01B
section
namespace Go.Proofs.YteipfcflijdapaaDoor.N
open Go Go.RowKit Go.Proofs.YteipfcflijdapaaDoor.F Go.Proofs.YteipfcflijdapaaDoorW.PrintWords Go.Proofs.YteipfcflijdapaaDoorW.PrintLast Go.Proofs.YteipfcflijdapaaDoorW.PrintMore Go.Proofs.YteipfcflijdapaaDoor.Digs
set_option linter.unusedSimpArgs false
set_option linter.unusedVariables false
theorem tdiv_nat (a b : Nat) : Int.tdiv (a : Int) (b : Int) = ((a / b : Nat) : Int) := by rw [Int.tdiv_eq_ediv_of_nonneg (Int.natCast_nonneg _)]; rfl
theorem tmod_nat (a b : Nat) : Int.tmod (a : Int) (b : Int) = ((a % b : Nat) : Int) := by rw [Int.tmod_eq_emod_of_nonneg (Int.natCast_nonneg _)]; rfl
theorem u64n (n : Nat) (h : n < 18446744073709551616) : IntKind.u64.wrap (n : Int) = (n : Int) := u64w (by omega) (by omega)
theorem gcd_word (a b : Nat) (ha : a < 18446744073709551616) (hb : b < 18446744073709551616) : Nat.gcd a b < 18446744073709551616 := by
  by_cases h : a = 0
  · subst h; rw [Nat.gcd_zero_left]; exact hb
  · exact Nat.lt_of_le_of_lt (Nat.le_of_dvd (by omega) (Nat.gcd_dvd_left _ _)) ha
theorem rgcd_l0 (N : Nat) : ∀ (a b : Nat), b ≤ N → Ev (fun k => tombolaref02_Gcd.l0 k (a : Int) (b : Int)) ((Nat.gcd a b : Nat) : Int) := by
  induction N with
  | zero =>
    intro a b h
    obtain rfl : b = 0 := by omega
    refine Ev.step (f := fun _ => some _) (fun k => ?_) (Ev.now _)
    simp only [tombolaref02_Gcd.l0]
    rw [if_neg (by omega), Nat.gcd_zero_right]
  | succ N ih =>
    intro a b h
    by_cases hb : b = 0
    · subst hb
      refine Ev.step (f := fun _ => some _) (fun k => ?_) (Ev.now _)
      simp only [tombolaref02_Gcd.l0]
      rw [if_neg (by omega), Nat.gcd_zero_right]
    · have hlt : a % b < b := Nat.mod_lt _ (by omega)
      have h' := ih b (a % b) (by omega)
      have e : Nat.gcd b (a % b) = Nat.gcd a b := by rw [Nat.gcd_comm a b, Nat.gcd_rec b a, Nat.gcd_comm]
      rw [e] at h'
      refine Ev.step (fun k => ?_) h'
      simp only [tombolaref02_Gcd.l0]
      rw [if_pos (by omega), if_neg (by omega), tmod_nat]
theorem rgcd_ev (a b : Nat) : Ev (fun k => tombolaref02_Gcd.f k (a : Int) (b : Int)) ((Nat.gcd a b : Nat) : Int) := rgcd_l0 b a b (Nat.le_refl _)
end Go.Proofs.YteipfcflijdapaaDoor.N
end
section
namespace Go.Proofs.YteipfcflijdapaaDoor.N
open Go Go.RowKit Go.Proofs.YteipfcflijdapaaDoor.F Go.Proofs.YteipfcflijdapaaDoorW.PrintWords Go.Proofs.YteipfcflijdapaaDoorW.PrintLast Go.Proofs.YteipfcflijdapaaDoorW.PrintMore Go.Proofs.YteipfcflijdapaaDoor.Digs
set_option linter.unusedSimpArgs false
set_option linter.unusedVariables false
theorem wd (n : Nat) (h : n < 18446744073709551616) : Wd (n : Int) := ⟨by omega, by omega⟩
theorem mul_nat (a b : Nat) (ha : a < 18446744073709551616) (hb : b < 18446744073709551616) :
    wide_Mul.f a b = some (if a * b < 18446744073709551616 then (((a * b : Nat) : Int), true) else (0, false)) := by
  rw [mulw_eq (wd a ha) (wd b hb), ← Int.natCast_mul]
  by_cases h : a * b < 18446744073709551616
  · rw [if_pos h, if_pos (by omega)]
  · rw [if_neg h, if_neg (by omega)]
end Go.Proofs.YteipfcflijdapaaDoor.N
end
section
namespace Go.Proofs.YteipfcflijdapaaDoor.N
open Go Go.RowKit Go.Proofs.YteipfcflijdapaaDoor.F Go.Proofs.YteipfcflijdapaaDoorW.PrintWords Go.Proofs.YteipfcflijdapaaDoorW.PrintLast Go.Proofs.YteipfcflijdapaaDoorW.PrintMore Go.Proofs.YteipfcflijdapaaDoor.Digs
set_option linter.unusedSimpArgs false
set_option linter.unusedVariables false
def ofN (m : List Nat) : List Int := m.map fun (n : Nat) => (n : Int)
def Words (m : List Nat) : Prop := ∀ n, n ∈ m → n < 18446744073709551616
theorem ofN_length (m : List Nat) : (ofN m).length = m.length := by simp [ofN]
theorem rd_ofN (m : List Nat) (j : Nat) : rd (ofN m) (j : Int) = ((m.getD j 0 : Nat) : Int) := by
  simp only [rd, Int.toNat_natCast, ofN, List.getD_eq_getElem?_getD, List.getElem?_map]
  cases m[j]? <;> rfl
theorem words_get {m : List Nat} (h : Words m) (j : Nat) : m.getD j 0 < 18446744073709551616 := by
  rw [List.getD_eq_getElem?_getD]
  cases hj : m[j]? with
  | none => simp
  | some x => exact h x (List.mem_of_getElem? hj)
def pre (m : List Nat) (j : Nat) : Nat := (m.take j).sum
end Go.Proofs.YteipfcflijdapaaDoor.N
end
section
namespace Go.Proofs.YteipfcflijdapaaDoor.N
open Go Go.RowKit Go.Proofs.YteipfcflijdapaaDoor.F Go.Proofs.YteipfcflijdapaaDoorW.PrintWords Go.Proofs.YteipfcflijdapaaDoorW.PrintLast Go.Proofs.YteipfcflijdapaaDoorW.PrintMore Go.Proofs.YteipfcflijdapaaDoor.Digs
set_option linter.unusedSimpArgs false
set_option linter.unusedVariables false
theorem drop_getD (m : List Nat) (j : Nat) (h : j < m.length) : m.drop j = m.getD j 0 :: m.drop (j + 1) := by
  rw [List.drop_eq_getElem_cons h, List.getD_eq_getElem?_getD, List.getElem?_eq_getElem h]; rfl
theorem gcd_l0 (m : List Nat) (hm : Words m) (hl : m.length < 8796093022208) (d : Nat) : ∀ (j g : Nat), m.length - j = d → j ≤ m.length → g < 18446744073709551616 →
    Ev (fun k => euclid_Gcd.l0 k (g : Int) (ofN m) (m.length : Int) (j : Int)) (((m.drop j).foldl Nat.gcd g : Nat) : Int) := by
  induction d with
  | zero =>
    intro j g hd hj hg
    refine Ev.step (f := fun _ => some _) (fun k => ?_) (Ev.now _)
    simp only [euclid_Gcd.l0]
    rw [if_neg (by omega), List.drop_eq_nil_of_le (by omega)]; rfl
  | succ d ih =>
    intro j g hd hj hg
    have hlt : j < m.length := by omega
    rw [drop_getD m j hlt, List.foldl_cons]
    have hw := words_get hm j
    refine Ev.step (fun k => ?_) (Ev.bind (f := fun n t => euclid_Gcd.l0 n t (ofN m) (m.length : Int) ((j + 1 : Nat) : Int)) (two_ev g _ hg hw) (ih (j + 1) (Nat.gcd g (m.getD j 0)) (by omega) (by omega) (gcd_word _ _ hg hw)))
    simp only [euclid_Gcd.l0]
    rw [if_pos (by omega), if_pos (by omega), if_pos (by rw [ofN_length]; omega), rd_ofN, i64w (by omega) (by omega)]
    rfl
theorem gcdAll_ev (m : List Nat) (hm : Words m) (hl : m.length < 8796093022208) : Ev (fun k => euclid_Gcd.f k (ofN m)) ((m.foldl Nat.gcd 0 : Nat) : Int) := by
  have h := gcd_l0 m hm hl _ 0 0 rfl (Nat.zero_le _) (by omega)
  refine Ev.congr (fun k => ?_) h
  unfold euclid_Gcd.f
  rw [ofN_length]; rfl
theorem index_l0 (m : List Nat) (hl : m.length < 8796093022208) (d : Nat) : ∀ (j : Nat), m.length - j = d → j ≤ m.length →
    ∃ r : Int, Ev (fun k => slices_Index_uint64_uint64.l0 k (ofN m) 0 (m.length : Int) (j : Int)) r ∧ (0 ≤ r ↔ 0 ∈ m.drop j) := by
  induction d with
  | zero =>
    intro j hd hj
    refine ⟨-1, Ev.step (f := fun _ => some _) (fun k => ?_) (Ev.now _), by rw [List.drop_eq_nil_of_le (by omega)]; simp⟩
    simp only [slices_Index_uint64_uint64.l0]
    rw [if_neg (by omega)]
  | succ d ih =>
    intro j hd hj
    have hlt : j < m.length := by omega
    rw [drop_getD m j hlt]
    by_cases h0 : m.getD j 0 = 0
    · refine ⟨(j : Int), Ev.step (f := fun _ => some _) (fun k => ?_) (Ev.now _), by rw [h0]; simp⟩
      simp only [slices_Index_uint64_uint64.l0]
      rw [if_pos (by omega), if_pos (by omega), if_pos (by rw [ofN_length]; omega), rd_ofN, if_pos (by rw [h0]; rfl)]
    · obtain ⟨r, hr, hi⟩ := ih (j + 1) (by omega) (by omega)
      refine ⟨r, Ev.step (fun k => ?_) hr, by rw [hi, List.mem_cons]; constructor <;> intro h <;> first | exact .inr h | exact h.resolve_left (fun e => h0 e.symm)⟩
      simp only [slices_Index_uint64_uint64.l0]
      rw [if_pos (by omega), if_pos (by omega), if_pos (by rw [ofN_length]; omega), rd_ofN, if_neg (by omega), i64w (by omega) (by omega)]
      rfl
theorem contains_ev (m : List Nat) (hl : m.length < 8796093022208) : Ev (fun k => slices_Contains_uint64_uint64.f k (ofN m) 0) (decide (0 ∈ m)) := by
  obtain ⟨r, hr, hi⟩ := index_l0 m hl _ 0 rfl (Nat.zero_le _)
  unfold slices_Contains_uint64_uint64.f
  refine Ev.bind (a := r) ?_ ?_
  · refine Ev.congr (fun k => ?_) hr
    unfold slices_Index_uint64_uint64.f
    rw [ofN_length]; rfl
  · have e : decide (r ≥ 0) = decide (0 ∈ m) := decide_eq_decide.2 (by rw [ge_iff_le, hi]; rfl)
    rw [e]; exact Ev.now _
def lcmW : Nat → List Nat → Nat × Bool
  | m, [] => (m, true)
  | m, x :: l => if m * (x / Nat.gcd m x) < 18446744073709551616 then lcmW (m * (x / Nat.gcd m x)) l else (0, false)
def lcmAll (l : List Nat) : Nat × Bool := if 0 ∈ l then (0, true) else lcmW 1 l
def nb (p : Nat × Bool) : Int × Bool := ((p.1 : Int), p.2)
theorem quot_pos (m x : Nat) (hm : 0 < m) (hx : x ≠ 0) : 0 < Nat.gcd m x ∧ 0 < m * (x / Nat.gcd m x) ∧ x / Nat.gcd m x ≤ x := by
  have hg : 0 < Nat.gcd m x := Nat.gcd_pos_of_pos_left _ hm
  have h : 0 < x / Nat.gcd m x := Nat.div_pos (Nat.le_of_dvd (by omega) (Nat.gcd_dvd_right _ _)) hg
  exact ⟨hg, Nat.mul_pos hm h, Nat.div_le_self _ _⟩
theorem lcm_l0 (l : List Nat) (hw : Words l) (hz : 0 ∉ l) (hl : l.length < 8796093022208) (d : Nat) : ∀ (j m : Nat), l.length - j = d → j ≤ l.length → 0 < m → m < 18446744073709551616 →
    Ev (fun k => euclid_Lcm.l0 k (m : Int) (ofN l) (l.length : Int) (j : Int)) (nb (lcmW m (l.drop j))) := by
  induction d with
  | zero =>
    intro j m hd hj hm hm64
    refine Ev.step (f := fun _ => some _) (fun k => ?_) (Ev.now _)
    simp only [euclid_Lcm.l0]
    rw [if_neg (by omega), List.drop_eq_nil_of_le (by omega)]; rfl
  | succ d ih =>
    intro j m hd hj hm hm64
    have hlt : j < l.length := by omega
    have hx := words_get hw j
    have hx0 : l.getD j 0 ≠ 0 := by
      intro h
      apply hz
      rw [List.getD_eq_getElem?_getD, List.getElem?_eq_getElem hlt] at h
      rw [← show l[j] = 0 from h]; exact List.getElem_mem _
    have hrd := rd_ofN l j
    rw [drop_getD l j hlt]
    generalize l.getD j 0 = x at hx hx0 hrd ⊢
    obtain ⟨g0, p0, q0⟩ := quot_pos m x hm hx0
    have hmul := mul_nat m (x / Nat.gcd m x) hm64 (by omega)
    have hg64 := gcd_word m x hm64 hx
    by_cases hfit : m * (x / Nat.gcd m x) < 18446744073709551616
    · rw [if_pos hfit] at hmul
      have e : lcmW m (x :: l.drop (j + 1)) = lcmW (m * (x / Nat.gcd m x)) (l.drop (j + 1)) := by rw [lcmW, if_pos hfit]
      rw [e]
      have h' := ih (j + 1) _ (by omega) (by omega) p0 hfit
      refine Ev.step (fun k => ?_) (Ev.bind (f := fun n t => if t = ((Nat.gcd m x : Nat) : Int) then euclid_Lcm.l0 n ((m * (x / Nat.gcd m x) : Nat) : Int) (ofN l) (l.length : Int) ((j + 1 : Nat) : Int) else
          (if t = 0 then none else ((wide_Mul.f (m : Int) (IntKind.u64.wrap (Int.tdiv (x : Int) t))).bind fun bt => if bt.2 = true then euclid_Lcm.l0 n bt.1 (ofN l) (l.length : Int) ((j + 1 : Nat) : Int) else some (0, false)))) (two_ev m x hm64 hx) (Ev.congr (fun k => if_pos rfl) h'))
      simp only [euclid_Lcm.l0]
      rw [if_pos (by omega), if_pos (by omega), if_pos (by rw [ofN_length]; omega), hrd, i64w (by omega) (by omega)]
      congr 1
      funext t
      by_cases ht : t = ((Nat.gcd m x : Nat) : Int)
      · subst ht
        rw [if_neg (by omega), if_pos rfl, tdiv_nat, u64n _ (by omega), hmul]; rfl
      · rw [if_neg ht]; rfl
    · rw [if_neg hfit] at hmul
      have e : lcmW m (x :: l.drop (j + 1)) = (0, false) := by rw [lcmW, if_neg hfit]
      rw [e]
      refine Ev.step (fun k => ?_) (Ev.bind (f := fun n t => if t = ((Nat.gcd m x : Nat) : Int) then some (0, false) else
          (if t = 0 then none else ((wide_Mul.f (m : Int) (IntKind.u64.wrap (Int.tdiv (x : Int) t))).bind fun bt => if bt.2 = true then euclid_Lcm.l0 n bt.1 (ofN l) (l.length : Int) ((j + 1 : Nat) : Int) else some (0, false)))) (two_ev m x hm64 hx) (Ev.congr (fun k => if_pos rfl) (Ev.now _)))
      simp only [euclid_Lcm.l0]
      rw [if_pos (by omega), if_pos (by omega), if_pos (by rw [ofN_length]; omega), hrd, i64w (by omega) (by omega)]
      congr 1
      funext t
      by_cases ht : t = ((Nat.gcd m x : Nat) : Int)
      · subst ht
        rw [if_neg (by omega), if_pos rfl, tdiv_nat, u64n _ (by omega), hmul]; rfl
      · rw [if_neg ht]; rfl
theorem lcm_ev (l : List Nat) (hw : Words l) (hl : l.length < 8796093022208) : Ev (fun k => euclid_Lcm.f k (ofN l)) (nb (lcmAll l)) := by
  unfold euclid_Lcm.f lcmAll
  refine Ev.bind (contains_ev l hl) ?_
  by_cases hz : 0 ∈ l
  · refine Ev.congr (fun k => ?_) (Ev.now _)
    rw [if_pos (decide_eq_true hz), if_pos hz]; rfl
  · rw [if_neg hz]
    refine Ev.congr (fun k => ?_) (lcm_l0 l hw hz hl _ 0 1 rfl (Nat.zero_le _) (by omega) (by omega))
    rw [if_neg (by simpa using hz), ofN_length]; rfl
end Go.Proofs.YteipfcflijdapaaDoor.N
end
section
namespace Go.Proofs.YteipfcflijdapaaDoor.N
open Go Go.RowKit Go.Proofs.YteipfcflijdapaaDoor.F Go.Proofs.YteipfcflijdapaaDoorW.PrintWords Go.Proofs.YteipfcflijdapaaDoorW.PrintLast Go.Proofs.YteipfcflijdapaaDoorW.PrintMore Go.Proofs.YteipfcflijdapaaDoor.Digs
set_option linter.unusedSimpArgs false
set_option linter.unusedVariables false
def cmpN (a b : Nat) : Int := if a < b then -1 else if b < a then 1 else 0
theorem cmp_l0 (a b : Nat) (i : Nat) : i < 1000000000000 → a / 65536 ^ i = b / 65536 ^ i →
    Ev (fun k => tombolaref01_Cmp.l0 k ((i : Int) - 1) (digs a) (digs b)) (cmpN a b) := by
  induction i with
  | zero =>
    intro _ h
    refine ⟨1, fun k hk => ?_⟩
    obtain ⟨k, rfl⟩ : ∃ m, k = m + 1 := ⟨k - 1, by omega⟩
    simp only [tombolaref01_Cmp.l0]
    rw [if_neg (by omega)]
    simp at h
    unfold cmpN
    rw [if_neg (by omega), if_neg (by omega)]
  | succ i ih =>
    intro hi h
    have hda := dig_digs a i
    have hdb := dig_digs b i
    rw [Nat.pow_succ, ← Nat.div_div_eq_div_mul, ← Nat.div_div_eq_div_mul] at h
    have e : (((i + 1 : Nat) : Int) - 1) = (i : Int) := by omega
    have lt_of : ∀ x y : Nat, x / 65536 ^ i < y / 65536 ^ i → x < y := by
      intro x y hxy
      rcases Nat.lt_or_ge x y with h1 | h1
      · exact h1
      · have := Nat.div_le_div_right (c := 65536 ^ i) h1; omega
    by_cases h1 : a / 65536 ^ i < b / 65536 ^ i
    · refine ⟨1, fun k hk => ?_⟩
      obtain ⟨k, rfl⟩ : ∃ m, k = m + 1 := ⟨k - 1, by omega⟩
      simp only [tombolaref01_Cmp.l0]
      rw [e, if_pos (by omega), digit_eq, digit_eq, hda, hdb]
      simp only [Option.bind_some]
      rw [if_pos (by omega)]
      unfold cmpN
      rw [if_pos (lt_of _ _ h1)]
    · by_cases h2 : b / 65536 ^ i < a / 65536 ^ i
      · refine ⟨1, fun k hk => ?_⟩
        obtain ⟨k, rfl⟩ : ∃ m, k = m + 1 := ⟨k - 1, by omega⟩
        simp only [tombolaref01_Cmp.l0]
        rw [e, if_pos (by omega), digit_eq, digit_eq, hda, hdb]
        simp only [Option.bind_some]
        rw [if_neg (by omega), if_pos (by omega)]
        have := lt_of _ _ h2
        unfold cmpN
        rw [if_neg (by omega), if_pos this]
      · have heq : a / 65536 ^ i = b / 65536 ^ i := by omega
        refine Ev.step (f := fun k => tombolaref01_Cmp.l0 k ((i : Int) - 1) (digs a) (digs b)) (fun k => ?_) (ih (by omega) heq)
        simp only [tombolaref01_Cmp.l0]
        rw [e, if_pos (by omega), digit_eq, digit_eq, hda, hdb]
        simp only [Option.bind_some]
        rw [heq, if_neg (by omega), if_neg (by omega), i64w (by omega) (by omega)]
theorem cmp_ev (a b : Nat) (hla : (digs a).length < 1000000000) (hlb : (digs b).length < 1000000000) : Ev (fun k => tombolaref01_Cmp.f k (digs a) (digs b)) (cmpN a b) := by
  have big : ∀ n : Nat, (digs a).length ≤ n → (digs b).length ≤ n → n < 1000000000 → Ev (fun k => tombolaref01_Cmp.j0 k n (digs a) (digs b)) (cmpN a b) := by
    intro n h1 h2 h3
    refine Ev.step (f := fun k => tombolaref01_Cmp.l0 k ((n : Int) - 1) (digs a) (digs b)) (fun k => ?_) (cmp_l0 a b n (by omega) ?_)
    · simp only [tombolaref01_Cmp.j0]
      rw [i64w (by omega) (by omega)]
    · rw [Nat.div_eq_of_lt ((digs_len_le a n).1 h1), Nat.div_eq_of_lt ((digs_len_le b n).1 h2)]
  by_cases h : ((digs b).length : Int) > ((digs a).length : Int)
  · exact Ev.congr (fun k => by unfold tombolaref01_Cmp.f; rw [if_pos h]) (big _ (by omega) (Nat.le_refl _) hlb)
  · exact Ev.congr (fun k => by unfold tombolaref01_Cmp.f; rw [if_neg h]) (big _ (Nat.le_refl _) (by omega) hla)
end Go.Proofs.YteipfcflijdapaaDoor.N
end
