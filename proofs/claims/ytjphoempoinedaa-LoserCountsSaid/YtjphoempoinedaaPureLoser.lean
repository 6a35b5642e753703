import Derived.Test.YtjphoempoinedaaSpan
import Derived.Test.YtjphoempoinedaaFLoserA
import Derived.Test.YtjphoempoinedaaFRef07A
import Derived.Test.YtjphoempoinedaaFLaw44LoserCounts
namespace Go.Proofs.Ytjphoempoinedaa.N
open Go Go.RowKit Go.Proofs.Ytjphoempoinedaa.F Go.Proofs.YtjphoempoinedaaW.PrintWords Go.Proofs.YtjphoempoinedaaW.PrintLast Go.Proofs.YtjphoempoinedaaW.PrintMore Go.Proofs.Ytjphoempoinedaa.Digs
set_option linter.unusedSimpArgs false
set_option linter.unusedVariables false
theorem wfH {x : Int} (h : (Lit.int .u64 x).wf = true) : ∃ n : Nat, x = n ∧ n < 18446744073709551616 := by
  have h2 : 0 ≤ x ∧ x ≤ 18446744073709551615 := by simpa [Lit.wf, IntKind.min, IntKind.max, IntKind.signed, IntKind.bits] using h
  exact ⟨x.toNat, by omega, by omega⟩
theorem wrap_nat (x : Int) : ∃ d : Nat, IntKind.u64.wrap x = d ∧ d < 18446744073709551616 := by
  rw [u64_mod]
  exact ⟨(x % 18446744073709551616).toNat, by omega, by omega⟩
theorem wordsh_l (l : List Int) (h : l.length ≤ 17592186044416) : ∀ (m i k : Nat), i + m = l.length → m < k → tombolaref07_Words.l0 k l l (i : Int) = some true := by
  intro m
  induction m with
  | zero =>
    intro i k hi hk
    obtain ⟨k, rfl⟩ : ∃ k', k = k' + 1 := ⟨k - 1, by omega⟩
    unfold tombolaref07_Words.l0
    rw [if_neg (by omega)]
  | succ m ih =>
    intro i k hi hk
    obtain ⟨k, rfl⟩ : ∃ k', k = k' + 1 := ⟨k - 1, by omega⟩
    have := ih (i + 1) k (by omega) (by omega)
    unfold tombolaref07_Words.l0
    rw [if_pos (by omega), if_pos (by omega), if_pos (by omega), if_pos rfl]
    have e : wrap64 ((i : Int) + 1) = ((i + 1 : Nat) : Int) := by unfold wrap64; omega
    rw [e]
    exact this
theorem wordsh_ev (l : List Int) (h : l.length ≤ 17592186044416) : Ev (fun k => tombolaref07_Words.f k l l) true := ⟨l.length + 1, fun k hk => by
  show tombolaref07_Words.f k l l = some true
  unfold tombolaref07_Words.f
  rw [if_pos rfl]
  exact wordsh_l l h l.length 0 k (by omega) (by omega)⟩
theorem ofN_snoc (m : List Nat) (x : Nat) : ofN (m ++ [x]) = ofN m ++ [(x : Int)] := by simp [ofN]
theorem words_snoc {m : List Nat} {x : Nat} (h : Words m) (hx : x < 18446744073709551616) : Words (m ++ [x]) := by
  intro n hn
  rcases List.mem_append.1 hn with h1 | h1
  · exact h n h1
  · rw [List.mem_singleton.1 h1]; exact hx
/-- What the risks are, when there is no error. -/
def Risked (l : List S79) (res : List Int × Int × Int) : Prop :=
  res.2.2 = 0 → ∃ m : List Nat, res = (ofN m, (m.sum : Int), 0) ∧ Words m ∧ m.sum < 18446744073709551616 ∧ m.length = l.length ∧ ∀ i : Nat, i < l.length → (rd_T79 l (i : Int)).f1 = 0 → m.getD i 0 = 0
def WfH (l : List S79) : Prop := ∀ i : Nat, ∃ a b : Nat, (rd_T79 l (i : Int)).f0 = a ∧ (rd_T79 l (i : Int)).f1 = b ∧ a < 18446744073709551616 ∧ b < 18446744073709551616
theorem wfH_of (l : List S79) (h : ∀ x, x ∈ l → (Lit.int .u64 x.f0).wf = true ∧ (Lit.int .u64 x.f1).wf = true) : WfH l := by
  intro i
  by_cases hi : i < l.length
  · have e : rd_T79 l (i : Int) = l[i] := by
      unfold rd_T79
      rw [Int.toNat_natCast, List.getD_eq_getElem?_getD, List.getElem?_eq_getElem hi]; rfl
    rw [e]
    obtain ⟨h1, h2⟩ := h _ (List.getElem_mem hi)
    obtain ⟨a, ea, ha⟩ := wfH h1
    obtain ⟨b, eb, hb⟩ := wfH h2
    exact ⟨a, b, ea, eb, ha, hb⟩
  · have e : rd_T79 l (i : Int) = z79 := by
      unfold rd_T79
      rw [Int.toNat_natCast, List.getD_eq_getElem?_getD, List.getElem?_eq_none (by omega)]; rfl
    rw [e]
    exact ⟨0, 0, rfl, rfl, by decide, by decide⟩
theorem getD_snoc_lt (m : List Nat) (x i : Nat) (h : i < m.length) : (m ++ [x]).getD i 0 = m.getD i 0 := by
  rw [List.getD_eq_getElem?_getD, List.getElem?_append_left h, List.getD_eq_getElem?_getD]
theorem getD_snoc_at (m : List Nat) (x : Nat) : (m ++ [x]).getD m.length 0 = x := by
  rw [List.getD_eq_getElem?_getD, List.getElem?_append_right (Nat.le_refl _), Nat.sub_self]; rfl
theorem risks_l1 (l : List S79) (hw : WfH l) (hl : l.length < 8796093022208) (t : Int) (d : Nat) : ∀ (m : List Nat) (b : Bool), l.length - m.length = d → m.length ≤ l.length → Words m →
    (∀ i : Nat, i < m.length → (rd_T79 l (i : Int)).f1 = 0 → m.getD i 0 = 0) →
    ∃ res, Ev (fun k => loser_Risks.l1 k (ofN m) t b l (l.length : Int) (m.length : Int)) res ∧ Risked l res := by
  induction d with
  | zero =>
    intro m b hd hle hm hz
    have e : m.length = l.length := by omega
    have ht := total_ev m hm (by omega)
    have hstep : ∀ k, loser_Risks.l1 (k + 1) (ofN m) t b l (l.length : Int) (m.length : Int) = (span_Total.f k (ofN m)).bind fun bt => (if b = true then (if bt.2 = true then (some (ofN m, bt.1, 0)) else (some (([] : List Int), 0, 10))) else (some (([] : List Int), 0, 10))) := by
      intro k
      simp only [loser_Risks.l1]
      rw [if_neg (by omega)]
    by_cases hs : m.sum < 18446744073709551616
    · rw [if_pos hs] at ht
      cases b
      · refine ⟨([], 0, 10), Ev.step hstep (Ev.bind ht ?_), fun h => absurd h (by decide)⟩
        exact Ev.now _
      · refine ⟨(ofN m, (m.sum : Int), 0), Ev.step hstep (Ev.bind ht ?_), fun _ => ⟨m, rfl, hm, hs, e, fun i hi => hz i (by omega)⟩⟩
        exact Ev.now _
    · rw [if_neg hs] at ht
      cases b
      · refine ⟨([], 0, 10), Ev.step hstep (Ev.bind ht ?_), fun h => absurd h (by decide)⟩
        exact Ev.now _
      · refine ⟨([], 0, 10), Ev.step hstep (Ev.bind ht ?_), fun h => absurd h (by decide)⟩
        exact Ev.now _
  | succ d ih =>
    intro m b hd hle hm hz
    have hlt : m.length < l.length := by omega
    have c1 : (m.length : Int) < (l.length : Int) := by omega
    have c2 : (ofN m).length < 17592186044416 := by rw [ofN_length]; omega
    have w1 : Aside0 (wrap64 ((m.length : Int) + 1) = ((m.length + 1 : Nat) : Int)) := ⟨by rw [i64w (by omega) (by omega)]; omega⟩
    obtain ⟨a, h, ea, eh, ha, hh⟩ := hw m.length
    cases b
    · have ht : ∃ v, Ev (fun k => span_Total.f k (ofN m)) v := ⟨_, total_ev m hm (by omega)⟩
      obtain ⟨v, ht⟩ := ht
      refine ⟨([], 0, 10), Ev.step (f := fun k => (span_Total.f k (ofN m)).bind fun bt => some (([] : List Int), (0 : Int), (10 : Int))) (fun k => ?_) (Ev.bind ht (Ev.now _)), fun h => absurd h (by decide)⟩
      simp only [loser_Risks.l1]
      rw [if_pos c1, if_pos (Int.natCast_nonneg _), if_pos c1]
      simp only [Bool.false_eq_true, if_false]
    · obtain ⟨x, ex, hx⟩ := wrap_nat (t - (a : Int))
      have hmul := mul_nat x h hx hh
      by_cases hp : x * h < 18446744073709551616
      · rw [if_pos hp] at hmul
        obtain ⟨res, hE, hR⟩ := ih (m ++ [x * h]) true (by rw [List.length_append, List.length_singleton]; omega) (by rw [List.length_append, List.length_singleton]; omega) (words_snoc hm hp) (fun i hi h0 => by
          rw [List.length_append, List.length_singleton] at hi
          by_cases hi2 : i < m.length
          · rw [getD_snoc_lt _ _ _ hi2]; exact hz i hi2 h0
          · obtain rfl : i = m.length := by omega
            rw [getD_snoc_at]
            have : h = 0 := by omega
            rw [this, Nat.mul_zero])
        refine ⟨res, Ev.step (fun k => ?_) hE, hR⟩
        simp only [loser_Risks.l1]
        rw [if_pos c1, if_pos (Int.natCast_nonneg _), if_pos c1, ea, eh, ex, hmul]
        simp only [Option.bind_some, if_true]
        rw [if_pos c2, w1.out, ofN_snoc, List.length_append, List.length_singleton]
      · rw [if_neg hp] at hmul
        obtain ⟨res, hE, hR⟩ := ih (m ++ [0]) false (by rw [List.length_append, List.length_singleton]; omega) (by rw [List.length_append, List.length_singleton]; omega) (words_snoc hm (by decide)) (fun i hi h0 => by
          rw [List.length_append, List.length_singleton] at hi
          by_cases hi2 : i < m.length
          · rw [getD_snoc_lt _ _ _ hi2]; exact hz i hi2 h0
          · obtain rfl : i = m.length := by omega
            rw [getD_snoc_at])
        refine ⟨res, Ev.step (fun k => ?_) hE, hR⟩
        simp only [loser_Risks.l1]
        rw [if_pos c1, if_pos (Int.natCast_nonneg _), if_pos c1, ea, eh, ex, hmul]
        simp only [Option.bind_some, if_true]
        rw [if_pos c2, w1.out, ofN_snoc, List.length_append, List.length_singleton]
        rfl
theorem risks_l0 (l : List S79) (hw : WfH l) (hl : l.length < 8796093022208) (d : Nat) : ∀ (m : List Nat), l.length - m.length = d → m.length ≤ l.length → Words m →
    ∃ res, Ev (fun k => loser_Risks.l0 k l (ofN m) l (l.length : Int) (m.length : Int)) res ∧ Risked l res := by
  induction d with
  | zero =>
    intro m hd hle hm
    have ht : ∃ v, Ev (fun k => span_Total.f k (ofN m)) v := ⟨_, total_ev m hm (by omega)⟩
    obtain ⟨⟨v1, v2⟩, ht⟩ := ht
    obtain ⟨res, hE, hR⟩ := risks_l1 l hw hl v1 _ [] v2 rfl (Nat.zero_le _) (fun n hn => absurd hn List.not_mem_nil) (fun i hi => absurd hi (Nat.not_lt_zero _))
    refine ⟨res, Ev.step (f := fun k => (span_Total.f k (ofN m)).bind fun bt106 => (loser_Risks.l1 k ([] : List Int) bt106.1 bt106.2 l (l.length : Int) 0)) (fun k => ?_) (Ev.bind ht hE), hR⟩
    simp only [loser_Risks.l0]
    rw [if_neg (by omega)]
  | succ d ih =>
    intro m hd hle hm
    have c1 : (m.length : Int) < (l.length : Int) := by omega
    have c2 : (ofN m).length < 17592186044416 := by rw [ofN_length]; omega
    have w1 : Aside0 (wrap64 ((m.length : Int) + 1) = ((m.length + 1 : Nat) : Int)) := ⟨by rw [i64w (by omega) (by omega)]; omega⟩
    obtain ⟨a, h, ea, eh, ha, hh⟩ := hw m.length
    obtain ⟨res, hE, hR⟩ := ih (m ++ [a]) (by rw [List.length_append, List.length_singleton]; omega) (by rw [List.length_append, List.length_singleton]; omega) (words_snoc hm ha)
    refine ⟨res, Ev.step (fun k => ?_) hE, hR⟩
    simp only [loser_Risks.l0]
    rw [if_pos c1, if_pos (Int.natCast_nonneg _), if_pos c1, if_pos c2, ea, w1.out, ofN_snoc, List.length_append, List.length_singleton]
theorem risks_ev (l : List S79) (hw : WfH l) (hl : l.length < 8796093022208) : ∃ res, Ev (fun k => loser_Risks.f k l) res ∧ Risked l res :=
  risks_l0 l hw hl _ [] rfl (Nat.zero_le _) (fun n hn => absurd hn List.not_mem_nil)
theorem at_ev (l : List S79) (m : List Nat) (hm : Words m) (hl : m.length < 8796093022208) (hs : m.sum < 18446744073709551616) (hr : Ev (fun k => loser_Risks.f k l) (ofN m, (m.sum : Int), 0)) (r : Nat) (hlt : r < m.sum) :
    Ev (fun k => loser_At.f k l (r : Int)) (pickI m r, 0) := by
  have ho : Ev (fun k => loser_open.f k l) (ofN m, (m.sum : Int), 0) := by
    unfold loser_open.f
    refine Ev.bind hr ?_
    refine Ev.congr (fun k => ?_) (Ev.now _)
    rw [if_pos rfl, if_neg (by show ¬ ((m.sum : Int) = 0); omega)]
  have hp := pick_ev m hm hl r (by omega)
  rw [if_pos ⟨hs, hlt⟩] at hp
  unfold loser_At.f
  refine Ev.bind ho ?_
  refine Ev.congr (fun k => by rw [if_pos rfl]) ?_
  refine Ev.bind hp ?_
  exact Ev.now _
/-- How often each lost with the numbers below one. -/
def lostN (m : List Nat) (r : Nat) : List Nat := (List.range m.length).map fun i => min (m.getD i 0) (r - pre m i)
theorem lostN_length (m : List Nat) (r : Nat) : (lostN m r).length = m.length := by simp [lostN]
theorem lostN_get (m : List Nat) (r i : Nat) (h : i < m.length) : (lostN m r).getD i 0 = min (m.getD i 0) (r - pre m i) := by
  unfold lostN
  rw [List.getD_eq_getElem?_getD, List.getElem?_map, List.getElem?_range h]; rfl
theorem eq_of_getD {a b : List Nat} (hl : a.length = b.length) (h : ∀ i, i < b.length → a.getD i 0 = b.getD i 0) : a = b := by
  apply List.ext_getElem hl
  intro i h1 h2
  have := h i h2
  rwa [List.getD_eq_getElem?_getD, List.getElem?_eq_getElem h1, List.getD_eq_getElem?_getD, List.getElem?_eq_getElem h2] at this
theorem lostN_zero (m : List Nat) : lostN m 0 = List.replicate m.length 0 := by
  apply eq_of_getD (by rw [lostN_length, List.length_replicate])
  intro i hi
  rw [List.length_replicate] at hi
  rw [lostN_get _ _ _ hi, Nat.zero_sub, Nat.min_zero, List.getD_eq_getElem?_getD, List.getElem?_replicate, if_pos hi]; rfl
theorem lostN_sum (m : List Nat) : lostN m m.sum = m := by
  apply eq_of_getD (lostN_length _ _)
  intro i hi
  rw [lostN_get _ _ _ hi]
  have h1 := pre_succ hi
  have h2 := pre_le_sum m (j := i + 1) hi
  omega
theorem lostN_step (m : List Nat) (r j : Nat) (hj : j < m.length) (h1 : pre m j ≤ r) (h2 : r < pre m j + m.getD j 0) : (lostN m r).set j ((lostN m r).getD j 0 + 1) = lostN m (r + 1) := by
  apply eq_of_getD (by rw [List.length_set, lostN_length, lostN_length])
  intro i hi
  rw [lostN_length] at hi
  have e : ((lostN m r).set j ((lostN m r).getD j 0 + 1)).getD i 0 = if j = i then (lostN m r).getD j 0 + 1 else (lostN m r).getD i 0 := by
    rw [List.getD_eq_getElem?_getD, List.getElem?_set]
    by_cases hji : j = i
    · rw [if_pos hji, if_pos hji, if_pos (by rw [lostN_length]; omega)]; rfl
    · rw [if_neg hji, if_neg hji, ← List.getD_eq_getElem?_getD]
  rw [e, lostN_get _ _ _ hi, lostN_get _ _ _ hi, lostN_get _ _ _ hj]
  by_cases hji : j = i
  · subst hji
    rw [if_pos rfl]
    omega
  · rw [if_neg hji]
    rcases Nat.lt_or_gt_of_ne hji with hlt | hgt
    · have p1 := pre_succ hj
      have p2 := pre_mono (m := m) (i := j + 1) (j := i) hlt (by omega)
      omega
    · have p1 := pre_succ hi
      have p2 := pre_mono (m := m) (i := i + 1) (j := j) hgt (by omega)
      omega
theorem counts_l0 (l : List S79) (m : List Nat) (hm : Words m) (hl : m.length = l.length) (hl2 : l.length ≤ 20) (hs : m.sum ≤ 500) (hz : ∀ i : Nat, i < l.length → (rd_T79 l (i : Int)).f1 = 0 → m.getD i 0 = 0)
    (hr : Ev (fun k => loser_Risks.f k l) (ofN m, (m.sum : Int), 0)) (d : Nat) : ∀ r : Nat, m.sum - r = d → r ≤ m.sum →
    Ev (fun k => tombolalaw44_LoserCounts.l0 k l (ofN m) (m.sum : Int) (ofN (lostN m r)) (r : Int)) true := by
  have alive44 : tombolalaw44_alive.f = some true := rfl
  induction d with
  | zero =>
    intro r hd hle
    obtain rfl : r = m.sum := by omega
    rw [lostN_sum]
    refine Ev.step (f := fun k => (tombolaref07_Words.f k (ofN m) (ofN m)).bind fun t116 => (if t116 = true then some true else (some false))) (fun k => ?_) (Ev.bind (wordsh_ev _ (by rw [ofN_length]; omega)) (Ev.now _))
    simp only [tombolalaw44_LoserCounts.l0]
    rw [if_neg (by omega), alive44]
    rfl
  | succ d ih =>
    intro r hd hle
    have hlt : r < m.sum := by omega
    obtain ⟨j, hj⟩ := pick_lt (i := 0) hlt
    have ep : pickI m r = (j : Int) := by unfold pickI; rw [hj]
    obtain ⟨_, p1, p2, p3⟩ := pick_some hj
    rw [Nat.sub_zero] at p1 p2 p3
    have hE := at_ev l m hm (by omega) (by omega) hr r hlt
    have hn := ih (r + 1) (by omega) (by omega)
    rw [← lostN_step m r j p1 p2 p3] at hn
    have q1 : (lostN m r).getD j 0 ≤ 500 := by
      rw [lostN_get _ _ _ p1]; omega
    have w1 : Aside0 (IntKind.u64.wrap ((r : Int) + 1) = ((r + 1 : Nat) : Int)) := ⟨by rw [u64w (by omega) (by omega)]; omega⟩
    have w2 : Aside0 (IntKind.u64.wrap ((((lostN m r).getD j 0 : Nat) : Int) + 1) = (((lostN m r).getD j 0 + 1 : Nat) : Int)) := ⟨by rw [u64w (by omega) (by omega)]; omega⟩
    have c3 : ¬ ((rd_T79 l (j : Int)).f1 = 0) := fun h0 => by
      have := hz j (by omega) h0
      omega
    generalize hx6 : ofN (lostN m r) = x6
    refine Ev.step (f := fun k => (loser_At.f k l (r : Int)).bind fun bt111 => (if bt111.2 = 0 then (if bt111.1 < 0 then (some false) else (if bt111.1 ≥ (l.length : Int) then (some false) else (if 0 ≤ bt111.1 then (if bt111.1 < (l.length : Int) then (if ((rd_T79 l bt111.1).f1) = 0 then (some false) else (if bt111.1 < (x6.length : Int) then (tombolalaw44_LoserCounts.l0 k l (ofN m) (m.sum : Int) (x6.set (bt111.1 : Int).toNat (IntKind.u64.wrap ((rd x6 bt111.1) + 1))) (IntKind.u64.wrap ((r : Int) + 1))) else (none))) else (none)) else (none)))) else (some false))) (fun k => ?_) (Ev.bind hE ?_)
    · simp only [tombolalaw44_LoserCounts.l0]
      rw [if_pos (by omega)]
    · subst hx6
      rw [ep]
      refine Ev.congr (fun k => ?_) hn
      rw [if_pos rfl, if_neg (by show ¬ ((j : Int) < 0); omega), if_neg (by show ¬ ((j : Int) ≥ (l.length : Int)); omega), if_pos (by show (0 : Int) ≤ (j : Int); omega), if_pos (by show (j : Int) < (l.length : Int); omega), if_neg c3, if_pos (by rw [ofN_length, lostN_length]; show (j : Int) < (m.length : Int); omega)]
      show tombolalaw44_LoserCounts.l0 k l (ofN m) (m.sum : Int) ((ofN (lostN m r)).set (j : Int).toNat (IntKind.u64.wrap ((rd (ofN (lostN m r)) (j : Int)) + 1))) (IntKind.u64.wrap ((r : Int) + 1)) = _
      rw [rd_ofN, w1.out, w2.out, Int.toNat_natCast, ofN_set]
theorem pureLoserCounts (l : List S79) (hw : WfH l) : ∃ k, tombolalaw44_LoserCounts.f k l = some true := by
  have alive44 : tombolalaw44_alive.f = some true := rfl
  refine Ev.rounds ?_
  by_cases g : (l.length : Int) > 20
  · refine Ev.congr (fun k => ?_) (Ev.now true)
    unfold tombolalaw44_LoserCounts.f
    rw [if_pos g, alive44]; rfl
  · obtain ⟨res, hE, hR⟩ := risks_ev l hw (by omega)
    unfold tombolalaw44_LoserCounts.f
    refine Ev.congr (fun k => by rw [if_neg g]) ?_
    refine Ev.bind hE ?_
    have hal : ∀ a b, Ev (fun k => tombolalaw44_LoserCounts.j0 k l a b true) true := fun a b => by
      refine Ev.step (f := fun k => some true) (fun k => ?_) (Ev.now _)
      simp only [tombolalaw44_LoserCounts.j0]
      rw [if_pos trivial, alive44]; rfl
    by_cases h0 : res.2.2 = 0
    · obtain ⟨m, rfl, hm, hs, hml, hz⟩ := hR h0
      refine Ev.congr (fun k => by rw [if_pos h0]) ?_
      by_cases h5 : (m.sum : Int) > 500
      · refine Ev.congr (fun k => by rw [if_pos h5]) ?_
        exact hal _ _
      · refine Ev.congr (fun k => by rw [if_neg h5]) ?_
        have eb : (((ofN m).length : Int) != (l.length : Int)) = false := by rw [ofN_length, hml]; simp
        have hx := counts_l0 l m hm hml (by omega) (by omega) hz hE _ 0 rfl (Nat.zero_le _)
        rw [lostN_zero] at hx
        have er : ofN (List.replicate m.length 0) = List.replicate l.length (0 : Int) := by unfold ofN; rw [List.map_replicate, hml]; rfl
        rw [er] at hx
        refine Ev.step (fun k => ?_) hx
        simp only [tombolalaw44_LoserCounts.j0]
        rw [eb, if_neg (by decide), if_pos (Int.natCast_nonneg _), if_pos (by rw [Int.toNat_natCast]; omega), Int.toNat_natCast]
        rfl
    · refine Ev.congr (fun k => by rw [if_neg h0]) ?_
      exact hal _ _
theorem mainLoserCounts (A0 : Option Addr) (c0 : Nat) (l0 : List S79) (w : World) (hr0 : Kd.C k79 w A0 l0.length l0) (hc0 : l0.length ≤ c0)
    (hw : (∀ x, x ∈ l0 → (Lit.int .u64 x.f0).wf = true ∧ (Lit.int .u64 x.f1).wf = true) ∧ l0.length ≤ 9223372036854775807) :
    Calls Try.prog 8 #[.slice A0 l0.length c0] w fun e w' => e = .returned (.bool true) ∧ Below w.heap.size w w' := by
  obtain ⟨k, hk⟩ := pureLoserCounts l0 (wfH_of l0 hw.1)
  exact tombolalaw44_LoserCounts.calls k A0 c0 l0 true ⟨rfl⟩ w hr0 hc0 hk
end Go.Proofs.Ytjphoempoinedaa.N
