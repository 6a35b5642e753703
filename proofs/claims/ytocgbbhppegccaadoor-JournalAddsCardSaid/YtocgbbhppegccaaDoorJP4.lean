-- Cut for this claim by a program (wip/prune.py) out of the texts that its bench laid or wrote
import Derived.Test.YtocgbbhppegccaaDoorJP3
import Derived.Test.YtocgbbhppegccaaDoorFTraceA
import Derived.Test.YtocgbbhppegccaaDoorFJournalD
import Derived.Test.YtocgbbhppegccaaDoorFJournalE
import Derived.Test.YtocgbbhppegccaaDoorFRef31A
import Derived.Test.YtocgbbhppegccaaDoorFRef46D
namespace Go.Proofs.YtocgbbhppegccaaDoor.N
open Go Go.RowKit Go.Proofs.YtocgbbhppegccaaDoor.F Go.Proofs.YtocgbbhppegccaaDoorW.PrintWords Go.Proofs.YtocgbbhppegccaaDoorW.PrintLast Go.Proofs.YtocgbbhppegccaaDoorW.PrintMore
set_option linter.unusedSimpArgs false
set_option linter.unusedVariables false
def knownI (a : Int) : Prop := 0 < a ∧ a < 24
theorem name_nonempty : ∀ j, j < 24 → 0 < j → (nameTab.getD j ⟨#[]⟩).toList ≠ [] := by decide +kernel
theorem name_iff (a : Int) : (nameOf a).toList = [] ↔ ¬ knownI a := by
  unfold nameOf knownI
  by_cases h : 0 < a ∧ a < 24
  · rw [if_pos h]
    exact ⟨fun e => absurd e (name_nonempty _ (by omega) (by omega)), fun e => absurd h e⟩
  · rw [if_neg h]
    exact ⟨fun _ => h, fun _ => by decide +kernel⟩
theorem refTab : ∀ j, j < 24 → rdOf ByteArray.empty nameTab ((j : Nat) : Int) = nameTab.getD j ⟨#[]⟩ := by decide +kernel
theorem rname_eq (a : Int) : tombolaref31_Name.f a = some (nameOf a) := by
  have hl : ((nameTab.length : Nat) : Int) = 24 := by decide
  have e : tombolaref31_Name.f a = (if a < 0 then (some (⟨#[]⟩ : ByteArray)) else (if a ≥ (nameTab.length : Int) then (some (⟨#[]⟩ : ByteArray)) else (if 0 ≤ a then (if a < (nameTab.length : Int) then (some (rdOf ByteArray.empty nameTab a)) else (none)) else (none)))) := rfl
  rw [e, hl]
  unfold nameOf
  by_cases h0 : a < 0
  · rw [if_pos h0, if_neg (by omega)]
  · by_cases h1 : a ≥ 24
    · rw [if_neg h0, if_pos h1, if_neg (by omega)]
    · rw [if_neg h0, if_neg h1, if_pos (by omega), if_pos (by omega)]
      obtain ⟨n, rfl⟩ : ∃ n : Nat, a = (n : Int) := ⟨a.toNat, by omega⟩
      rw [refTab n (by omega), Int.toNat_natCast]
      by_cases h2 : 0 < (n : Int) ∧ (n : Int) < 24
      · rw [if_pos h2]
      · rw [if_neg h2]
        obtain rfl : n = 0 := by omega
        rfl
def iw (n : Nat) : Int := wrap64 (n : Int)
theorem iw_uw (a : Int) (h : -9223372036854775808 ≤ a ∧ a < 9223372036854775808) : iw (uw a) = a := by unfold iw uw wrap64; omega
theorem uw_iw (n : Nat) (h : n < 18446744073709551616) : uw (iw n) = n := by unfold iw uw wrap64; omega
def oneN (s : Nat) (m : List Nat) : Option (S29 × Nat) :=
  if m.length < 33 then none
  else if (nameOf ((m.getD 0 0 : Nat) : Int)).toList = [] then none
  else if valN ((m.drop 25).take 8) = sumN sum0 (leN 8 s ++ m.take 25) then some (⟨((m.getD 0 0 : Nat) : Int), iw (valN ((m.drop 1).take 8)), iw (valN ((m.drop 9).take 8)), iw (valN ((m.drop 17).take 8))⟩, sumN sum0 (leN 8 s ++ m.take 25))
  else none
def oneR : Option (S29 × Nat) → Int × Int × Int × Int × Int × Bool
  | none => (0, 0, 0, 0, 0, false)
  | some (o, n) => (o.f0, o.f1, o.f2, o.f3, (n : Int), true)
theorem rd0 (m : List Nat) (hm : Bytes m) : wrap64 (rd (ofN m) 0) = ((m.getD 0 0 : Nat) : Int) := by
  have h : rd (ofN m) 0 = ((m.getD 0 0 : Nat) : Int) := rd_ofN m 0
  have hb := bytes_get hm 0
  rw [h, i64w (by omega) (by omega)]
theorem one_ev (s : Nat) (m : List Nat) (hm : Bytes m) : Ev (fun k => journal_one.f k (s : Int) (ofN m)) (oneR (oneN s m)) := by
  have hl := ofN_length m
  by_cases h33 : m.length < 33
  · have e : oneN s m = none := by unfold oneN; rw [if_pos h33]
    rw [e]
    refine Ev.step (f := fun _ => some _) (fun k => ?_) (Ev.now _)
    unfold journal_one.f
    rw [if_pos (by omega)]
    simp only [journal_one.j0]
    rw [if_pos trivial]; rfl
  · by_cases hk : (nameOf ((m.getD 0 0 : Nat) : Int)).toList = []
    · have e : oneN s m = none := by unfold oneN; rw [if_neg h33, if_pos hk]
      rw [e]
      refine Ev.step (f := fun _ => some _) (fun k => ?_) (Ev.now _)
      unfold journal_one.f trace_Name.f
      rw [if_neg (by omega), if_pos (by omega), rd0 m hm]
      simp only [Option.bind_some]
      rw [show ((nameOf ((m.getD 0 0 : Nat) : Int)).toList == ([] : List UInt8)) = true from beq_iff_eq.mpr hk]
      simp only [journal_one.j0]
      rw [if_pos trivial]; rfl
    · have h25 : (m.take 25).length = 25 := by rw [List.length_take]; omega
      have d25 : 8 ≤ (m.drop 25).length := by rw [List.length_drop]; omega
      have d1 : 8 ≤ (m.drop 1).length := by rw [List.length_drop]; omega
      have d9 : 8 ≤ (m.drop 9).length := by rw [List.length_drop]; omega
      have d17 : 8 ≤ (m.drop 17).length := by rw [List.length_drop]; omega
      have S1 := sum_ev (leN 8 s ++ m.take 25) (Bytes.app (leN_bytes _ _) (hm.take 25)) (by rw [List.length_append, leN_length, h25]; decide)
      have N25 := number_ev _ (hm.drop 25) d25
      have N1 := number_ev _ (hm.drop 1) d1
      have N9 := number_ev _ (hm.drop 9) d9
      have N17 := number_ev _ (hm.drop 17) d17
      have J : Ev (fun k => journal_one.j0 k (s : Int) (ofN m) false) (oneR (oneN s m)) := by
        apply Ev.step
        case h =>
          intro k
          simp only [journal_one.j0]
          rw [if_neg (by decide)]
        refine Ev.bind (eight_ev s) ?_
        refine Ev.congr (fun k => by rw [if_pos (by omega), if_pos (by rw [ofN_take, ofN_length, ofN_length, leN_length, h25]; decide), ofN_take, ← ofN_app]) ?_
        refine Ev.bind S1 ?_
        refine Ev.congr (fun k => by rw [ofN_drop]) (Ev.bind N25 ?_)
        by_cases hs : valN ((m.drop 25).take 8) = sumN sum0 (leN 8 s ++ m.take 25)
        · have e : oneN s m = some (⟨((m.getD 0 0 : Nat) : Int), iw (valN ((m.drop 1).take 8)), iw (valN ((m.drop 9).take 8)), iw (valN ((m.drop 17).take 8))⟩, sumN sum0 (leN 8 s ++ m.take 25)) := by unfold oneN; rw [if_neg h33, if_neg hk, if_pos hs]
          rw [e]
          refine Ev.congr (fun k => by rw [if_pos (by rw [hs]), if_pos (by omega), if_pos (by omega), ofN_drop]) (Ev.bind N1 ?_)
          refine Ev.congr (fun k => by rw [if_pos (by omega), ofN_drop]) (Ev.bind N9 ?_)
          refine Ev.congr (fun k => by rw [if_pos (by omega), ofN_drop]) (Ev.bind N17 ?_)
          refine Ev.congr (fun k => ?_) (Ev.now _)
          rw [rd0 m hm]; rfl
        · have e : oneN s m = none := by unfold oneN; rw [if_neg h33, if_neg hk, if_neg hs]
          rw [e]
          refine Ev.congr (fun k => ?_) (Ev.now _)
          rw [if_neg (by omega)]; rfl
      refine Ev.congr (fun k => ?_) J
      unfold journal_one.f trace_Name.f
      rw [if_neg (by omega), if_pos (by omega), rd0 m hm]
      simp only [Option.bind_some]
      rw [show ((nameOf ((m.getD 0 0 : Nat) : Int)).toList == ([] : List UInt8)) = false from beq_eq_false_iff_ne.mpr hk]
def readN : Nat → Nat → List Nat → List S29 × Nat
  | 0, _, _ => ([], 0)
  | c + 1, s, m => match oneN s m with
    | none => ([], 0)
    | some (o, n) => (o :: (readN c n (m.drop 33)).1, 33 + (readN c n (m.drop 33)).2)
theorem one_long {s : Nat} {m : List Nat} {o : S29} {n : Nat} (h : oneN s m = some (o, n)) : 33 ≤ m.length ∧ n < 18446744073709551616 := by
  unfold oneN at h
  by_cases h33 : m.length < 33
  · rw [if_pos h33] at h; cases h
  · rw [if_neg h33] at h
    by_cases hk : (nameOf ((m.getD 0 0 : Nat) : Int)).toList = []
    · rw [if_pos hk] at h; cases h
    · rw [if_neg hk] at h
      by_cases hs : valN ((m.drop 25).take 8) = sumN sum0 (leN 8 s ++ m.take 25)
      · rw [if_pos hs] at h
        injection h with h
        injection h with h1 h2
        subst h2
        exact ⟨by omega, sumN_lt _ _ (by decide)⟩
      · rw [if_neg hs] at h; cases h
theorem read_l0 (m : List Nat) (hm : Bytes m) (hl : m.length < 1000000000) (c : Nat) : ∀ (out : List S29) (s at_ : Nat), 4096 - out.length = c → out.length ≤ 4096 → at_ ≤ m.length →
    Ev (fun k => journal_Read.l0 k (ofN m) out (s : Int) (at_ : Int)) (out ++ (readN c s (m.drop at_)).1, ((at_ + (readN c s (m.drop at_)).2 : Nat) : Int)) := by
  have hlen := ofN_length m
  induction c with
  | zero =>
    intro out s at_ hc hout hat
    refine Ev.step (f := fun _ => some _) (fun k => ?_) (Ev.now _)
    rw [journal_Read.l0_s, if_neg (by omega)]
    simp [readN]
  | succ c ih =>
    intro out s at_ hc hout hat
    have e1 := one_ev s (m.drop at_) (hm.drop at_)
    apply Ev.step
    case h =>
      intro k
      rw [journal_Read.l0_s, if_pos (by omega), if_pos (by omega), if_pos (by omega), Int.toNat_natCast, ofN_drop]
    refine Ev.bind e1 ?_
    cases ho : oneN s (m.drop at_) with
    | none =>
      refine Ev.congr (fun k => ?_) (Ev.now _)
      show (if false = true then _ else some (out, (at_ : Int))) = _
      rw [if_neg (by decide)]
      simp [readN, ho]
    | some p =>
      obtain ⟨o, n⟩ := p
      have h33 := (one_long ho).1
      rw [List.length_drop] at h33
      have h' := ih (out ++ [o]) n (at_ + 33) (by rw [List.length_append]; simp; omega) (by rw [List.length_append]; simp; omega) (by omega)
      have er : readN (c + 1) s (m.drop at_) = (o :: (readN c n (m.drop (at_ + 33))).1, 33 + (readN c n (m.drop (at_ + 33))).2) := by
        rw [readN, ho]; simp only [List.drop_drop]
      rw [er]
      have e9 : (out ++ [o]) ++ (readN c n (m.drop (at_ + 33))).1 = out ++ o :: (readN c n (m.drop (at_ + 33))).1 := by simp
      rw [e9, Nat.add_assoc] at h'
      refine Ev.congr (fun k => ?_) h'
      show (if true = true then (if out.length < 4398046511104 then journal_Read.l0 k (ofN m) (out ++ [o]) (n : Int) (wrap64 ((at_ : Int) + 33)) else none) else _) = _
      rw [if_pos rfl, if_pos (by omega), i64w (by omega) (by omega)]
      rfl
theorem read_ev (m : List Nat) (hm : Bytes m) (hl : m.length < 1000000000) : Ev (fun k => journal_Read.f k (ofN m)) ((readN 4096 0 m).1, (((readN 4096 0 m).2 : Nat) : Int)) := by
  have h := read_l0 m hm hl 4096 [] 0 0 rfl (by decide) (by omega)
  have h2 : Ev (fun k => journal_Read.l0 k (ofN m) [] 0 0) ((readN 4096 0 m).1, (((readN 4096 0 m).2 : Nat) : Int)) := by simpa using h
  exact h2
end Go.Proofs.YtocgbbhppegccaaDoor.N
