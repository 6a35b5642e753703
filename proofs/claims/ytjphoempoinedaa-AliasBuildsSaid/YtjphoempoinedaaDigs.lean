-- Cut for this claim by a program (wip/prune.py) out of the texts that its bench laid or wrote
import Derived.Test.YtjphoempoinedaaWWords
import Derived.Deep.Slices
import Derived.Carry
section
namespace Go.Proofs.Ytjphoempoinedaa.Open
open Go Go.RowKit Go.ChangeShapes Go.WideShapes Go.Deep Go.Proofs.YtjphoempoinedaaW.PrintWords
set_option linter.unusedSimpArgs false
set_option linter.unusedVariables false
def Opens {α : Type} (P : Program) (d : Kd α) (t : TypeId) (wf : α → Prop) : Prop :=
  ∀ {H : Type} (enc : TypeId × Value → H) (w : World) (base : Nat) (spare : Nat → Bool) (held : Bool) (fuel : Nat) (cs : List Value) (x : DataW H × List MemPlace),
    DataW.trod enc P w base spare held fuel t cs = some x → ∃ a, d.K w a cs ∧ wf a
theorem Opens.mono {α : Type} {P : Program} {d : Kd α} {t : TypeId} {wf wf' : α → Prop} (h : Opens P d t wf) (hw : ∀ a, wf a → wf' a) : Opens P d t wf' :=
  fun enc w base spare held fuel cs x hx => let ⟨a, k, q⟩ := h enc w base spare held fuel cs x hx; ⟨a, k, hw a q⟩
theorem opens_int {P : Program} {t : TypeId} {k : IntKind} (ht : P.underlying t = some (.int k)) : Opens P (Kd.int k) t (fun n => (Lit.int k n).wf = true) := by
  intro H enc w base spare held fuel cs x h
  obtain ⟨n, rfl, _, hw⟩ := DataW.trod_int ht h
  exact ⟨n, rfl, hw⟩
theorem opens_slice {α : Type} (z : α) {P : Program} {t e : TypeId} {d : Kd α} {wf : α → Prop} (ht : P.underlying t = some (.slice e)) (hc : P.cellsOf e = d.sz) (hd : Opens P d e wf) :
    Opens P (Kd.slice e d) t (fun xs => (∀ x, x ∈ xs → wf x) ∧ xs.length ≤ 9223372036854775807) := by
  haveI : Inhabited α := ⟨z⟩
  intro H enc w base spare held fuel cs x h
  rcases open_slice ht h with ⟨rfl, _⟩ | ⟨a, len, cap, m, n, D, Pl, rfl, hb, hl, hm, hmm, _, hx⟩
  · exact ⟨[], ⟨none, 0, rfl, Nat.le_refl _, ⟨rfl, Nat.zero_le _, fun h => absurd h (Nat.lt_irrefl _)⟩⟩, ⟨fun _ h => absurd h List.not_mem_nil, Nat.zero_le _⟩⟩
  · have hlm : len ≤ m := by rw [hmm]; split <;> omega
    have hmax : cap ≤ 9223372036854775807 := hm
    obtain ⟨f, hf⟩ := choose_lt (α := α) (n := len) (p := fun i y => ∃ c, w.cells? base (a.add (i * P.cellsOf e)) (P.cellsOf e) = some c ∧ d.K w y c ∧ wf y) (fun i hi => by
      obtain ⟨c, h1, h2⟩ := hx i (by omega)
      obtain ⟨y, k, q⟩ := hd enc w base spare held n c _ h2
      exact ⟨y, c, h1, k, q⟩)
    have hlen : ((List.range len).map f).length = len := by simp
    refine ⟨(List.range len).map f, ⟨some a, cap, by rw [hlen], by rw [hlen]; exact hl, ?_⟩, ?_, by rw [hlen]; omega⟩
    · rw [hlen]
      refine ⟨hlen, by omega, fun hpos => ⟨a, rfl, fun j p hj => ?_⟩⟩
      have hjl : j < len := by
        rcases Nat.lt_or_ge j len with h | h
        · exact h
        · rw [List.getElem?_eq_none (by simpa using h)] at hj; cases hj
      have hp : f j = p := by
        rw [List.getElem?_map, List.getElem?_range hjl] at hj
        exact Option.some.inj hj
      obtain ⟨c, h1, k, _⟩ := hf j hjl
      rw [hp] at k
      obtain ⟨_, hcl, hcell⟩ := World.cells?_some h1
      refine ⟨c, by rw [hcl, hc], k, fun i u hu => ?_⟩
      have hi : i < c.length := by
        rcases Nat.lt_or_ge i c.length with h | h
        · exact h
        · rw [List.getElem?_eq_none h] at hu; cases hu
      rw [← Go.Deep.add_add, ← hc, hcell i (by omega)]
      exact hu
    · intro y hy
      obtain ⟨j, hj, rfl⟩ := List.mem_map.1 hy
      obtain ⟨c, _, _, q⟩ := hf j (List.mem_range.1 hj)
      exact q
theorem opened {α H : Type} {enc : TypeId × Value → H} {P : Program} {d : Kd α} {t : TypeId} {wf : α → Prop} {w : World} {base : Nat} {spare : Nat → Bool} {held : Bool} {v : Value} {dt : DataW H} {ps : List MemPlace} (hO : Opens P d t wf)
    (h : DataW.Trod enc P w base spare held t v dt ps) : ∃ a, d.K w a v.cells.toList ∧ wf a := by
  obtain ⟨fuel, hf⟩ := h
  exact hO enc w base spare held fuel _ _ hf
end Go.Proofs.Ytjphoempoinedaa.Open
end
section
namespace Go.Proofs.Ytjphoempoinedaa.Digs
def val : List Int → Int
  | [] => 0
  | d :: l => d + 65536 * val l
def digsF : Nat → Nat → List Int
  | 0, _ => []
  | f + 1, n => if n = 0 then [] else ((n % 65536 : Nat) : Int) :: digsF f (n / 65536)
def digs (n : Nat) : List Int := digsF n n
theorem digsF_more (n : Nat) : ∀ f g, n ≤ f → n ≤ g → digsF f n = digsF g n := by
  induction n using Nat.strongRecOn with
  | _ n ih =>
    intro f g hf hg
    cases f with
    | zero =>
      obtain rfl : n = 0 := by omega
      cases g <;> simp [digsF]
    | succ f =>
      cases g with
      | zero =>
        obtain rfl : n = 0 := by omega
        simp [digsF]
      | succ g =>
        simp only [digsF]
        by_cases h : n = 0
        · rw [if_pos h, if_pos h]
        · rw [if_neg h, if_neg h, ih (n / 65536) (by omega) f g (by omega) (by omega)]
def Dg (l : List Int) : Prop := ∀ d, d ∈ l → 0 ≤ d ∧ d < 65536
theorem digs_zero : digs 0 = [] := rfl
theorem digs_pos {n : Nat} (h : 0 < n) : digs n = ((n % 65536 : Nat) : Int) :: digs (n / 65536) := by
  obtain ⟨m, rfl⟩ : ∃ m, n = m + 1 := ⟨n - 1, by omega⟩
  unfold digs
  rw [digsF, if_neg (by omega), digsF_more _ m ((m + 1) / 65536) (by omega) (Nat.le_refl _)]
theorem val_digs (n : Nat) : val (digs n) = n := by
  induction n using Nat.strongRecOn with
  | _ n ih =>
    by_cases h : n = 0
    · subst h; rw [digs_zero]; rfl
    · rw [digs_pos (by omega)]
      simp only [val]
      rw [ih (n / 65536) (by omega)]
      omega
theorem good_digs (n : Nat) : Dg (digs n) := by
  induction n using Nat.strongRecOn with
  | _ n ih =>
    by_cases h : n = 0
    · subst h; rw [digs_zero]; intro d hd; cases hd
    · rw [digs_pos (by omega)]
      intro d hd
      rcases List.mem_cons.1 hd with rfl | hd
      · omega
      · exact ih _ (by omega) d hd
theorem good_nil : Dg [] := fun d hd => by cases hd
theorem good_cons {d : Int} {l : List Int} : Dg (d :: l) ↔ (0 ≤ d ∧ d < 65536) ∧ Dg l :=
  ⟨fun h => ⟨h d List.mem_cons_self, fun x hx => h x (List.mem_cons_of_mem _ hx)⟩, fun h x hx => by
    rcases List.mem_cons.1 hx with rfl | hx
    · exact h.1
    · exact h.2 x hx⟩
theorem good_append {l m : List Int} (h : Dg l) (h' : Dg m) : Dg (l ++ m) := fun d hd => by
  rcases List.mem_append.1 hd with hd | hd
  · exact h d hd
  · exact h' d hd
theorem good_snoc {l : List Int} {d : Int} (h : Dg l) (h0 : 0 ≤ d) (h1 : d < 65536) : Dg (l ++ [d]) :=
  good_append h (good_cons.2 ⟨⟨h0, h1⟩, good_nil⟩)
theorem pow_pos' (k : Nat) : 0 < (65536 : Int) ^ k := Int.pow_pos (by omega)
theorem pow_mono {m n : Nat} (h : m ≤ n) : (65536 : Int) ^ m ≤ 65536 ^ n := by
  have := Nat.pow_le_pow_right (n := 65536) (by omega) h
  have h2 : ((65536 ^ m : Nat) : Int) ≤ ((65536 ^ n : Nat) : Int) := Int.ofNat_le.2 this
  rw [Int.natCast_pow, Int.natCast_pow] at h2
  exact h2
theorem val_nonneg {l : List Int} (h : Dg l) : 0 ≤ val l := by
  induction l with
  | nil => simp [val]
  | cons d l ih =>
    obtain ⟨⟨h0, h1⟩, h2⟩ := good_cons.1 h
    have := ih h2
    simp only [val]; omega
theorem val_lt {l : List Int} (h : Dg l) : val l < 65536 ^ l.length := by
  induction l with
  | nil => simp [val]
  | cons d l ih =>
    obtain ⟨⟨h0, h1⟩, h2⟩ := good_cons.1 h
    have := ih h2
    simp only [val, List.length_cons]
    rw [Int.pow_succ]; omega
theorem val_append (l m : List Int) : val (l ++ m) = val l + 65536 ^ l.length * val m := by
  induction l with
  | nil => simp [val]
  | cons d l ih =>
    simp only [List.cons_append, val, List.length_cons, ih]
    rw [Int.pow_succ, Int.mul_add, ← Int.mul_assoc, Int.mul_comm 65536 (65536 ^ l.length)]; omega
theorem val_snoc (l : List Int) (d : Int) : val (l ++ [d]) = val l + 65536 ^ l.length * d := by
  rw [val_append]; simp [val]
theorem digs_val {l : List Int} (h : Dg l) (hc : ∀ x, l.getLast? = some x → x ≠ 0) : digs (val l).toNat = l := by
  induction l with
  | nil => simp [val, digs_zero]
  | cons d l ih =>
    obtain ⟨⟨h0, h1⟩, h2⟩ := good_cons.1 h
    have hn := val_nonneg h2
    have hpos : 0 < (val (d :: l)).toNat := by
      simp only [val]
      cases l with
      | nil =>
        have := hc d (by simp)
        simp [val]; omega
      | cons e l =>
        rcases Int.lt_or_eq_of_le hn with hn | hn
        · omega
        · exfalso
          have hi := ih h2 (fun x hx => hc x (by rw [List.getLast?_cons_cons]; exact hx))
          rw [← hn] at hi
          simp [digs_zero] at hi
    rw [digs_pos hpos]
    have e1 : ((val (d :: l)).toNat % 65536 : Nat) = d.toNat := by simp only [val]; omega
    have e2 : (val (d :: l)).toNat / 65536 = (val l).toNat := by simp only [val]; omega
    rw [e1, e2]
    congr 1
    · omega
    · cases l with
      | nil => simp [val, digs_zero]
      | cons e l => exact ih h2 (fun x hx => hc x (by rw [List.getLast?_cons_cons]; exact hx))
theorem digs_len_le (n m : Nat) : (digs n).length ≤ m ↔ n < 65536 ^ m := by
  induction m generalizing n with
  | zero =>
    by_cases h : n = 0
    · subst h; simp [digs_zero]
    · rw [digs_pos (by omega)]; simp; omega
  | succ m ih =>
    by_cases h : n = 0
    · subst h; simp [digs_zero]; exact Nat.pow_pos (by omega)
    · rw [digs_pos (by omega)]
      simp only [List.length_cons, Nat.add_le_add_iff_right]
      rw [ih, Nat.pow_succ, Nat.div_lt_iff_lt_mul (by omega)]
def dig (l : List Int) (i : Nat) : Int := l.getD i 0
theorem dig_cons_zero (d : Int) (l : List Int) : dig (d :: l) 0 = d := rfl
theorem dig_cons_succ (d : Int) (l : List Int) (i : Nat) : dig (d :: l) (i + 1) = dig l i := by simp [dig]
theorem dig_behind {l : List Int} {i : Nat} (h : l.length ≤ i) : dig l i = 0 := by
  simp [dig, List.getD_eq_getElem?_getD, List.getElem?_eq_none h]
theorem dig_good {l : List Int} (h : Dg l) (i : Nat) : 0 ≤ dig l i ∧ dig l i < 65536 := by
  by_cases hi : i < l.length
  · have : dig l i = l[i] := by simp [dig, List.getD_eq_getElem?_getD, List.getElem?_eq_getElem hi]
    rw [this]; exact h _ (List.getElem_mem hi)
  · rw [dig_behind (by omega)]; omega
theorem dig_val {l : List Int} (h : Dg l) (i : Nat) : dig l i = val l / 65536 ^ i % 65536 := by
  induction l generalizing i with
  | nil => simp [dig, val]
  | cons d l ih =>
    obtain ⟨⟨h0, h1⟩, h2⟩ := good_cons.1 h
    cases i with
    | zero => simp only [dig_cons_zero, val, Int.pow_zero, Int.ediv_one]; omega
    | succ i =>
      rw [dig_cons_succ, ih h2, Int.pow_succ, Int.mul_comm, ← Int.ediv_ediv_of_nonneg (by omega)]
      congr 2
      simp only [val]; omega
theorem dig_digs (n i : Nat) : dig (digs n) i = ((n / 65536 ^ i % 65536 : Nat) : Int) := by
  rw [dig_val (good_digs n), val_digs]
  simp [Int.natCast_ediv, Int.natCast_emod, Int.natCast_pow]
theorem val_set {l : List Int} {i : Nat} (hi : i < l.length) (x : Int) : val (l.set i x) = val l + 65536 ^ i * (x - dig l i) := by
  induction l generalizing i with
  | nil => simp at hi
  | cons d l ih =>
    cases i with
    | zero => simp only [List.set_cons_zero, val, dig_cons_zero, Int.pow_zero]; omega
    | succ i =>
      simp only [List.length_cons] at hi
      simp only [List.set_cons_succ, val, dig_cons_succ]
      rw [ih (by omega), Int.pow_succ, Int.mul_add, ← Int.mul_assoc, Int.mul_comm 65536 (65536 ^ i)]; omega
theorem good_set {l : List Int} (h : Dg l) (i : Nat) {x : Int} (h0 : 0 ≤ x) (h1 : x < 65536) : Dg (l.set i x) := fun d hd => by
  rcases List.mem_or_eq_of_mem_set hd with hd | rfl
  · exact h d hd
  · exact ⟨h0, h1⟩
theorem val_replicate (n : Nat) : val (List.replicate n 0) = 0 := by
  induction n with
  | zero => rfl
  | succ n ih => simp [List.replicate_succ, val, ih]
theorem good_replicate (n : Nat) : Dg (List.replicate n 0) := fun d hd => by
  rw [List.mem_replicate] at hd; omega
end Go.Proofs.Ytjphoempoinedaa.Digs
end
