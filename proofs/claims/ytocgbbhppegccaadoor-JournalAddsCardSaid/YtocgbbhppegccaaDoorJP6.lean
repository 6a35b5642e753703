-- Cut for this claim by a program (wip/prune.py) out of the texts that its bench laid or wrote
import Derived.Test.YtocgbbhppegccaaDoorJP4
import Derived.Test.YtocgbbhppegccaaDoorFRef29A
section
namespace Go.Proofs.YtocgbbhppegccaaDoor.N
open Go Go.RowKit Go.Proofs.YtocgbbhppegccaaDoor.F Go.Proofs.YtocgbbhppegccaaDoorW.PrintWords Go.Proofs.YtocgbbhppegccaaDoorW.PrintLast Go.Proofs.YtocgbbhppegccaaDoorW.PrintMore
set_option linter.unusedSimpArgs false
set_option linter.unusedVariables false
theorem str_inj (a b : List Nat) (ha : Bytes a) (hb : Bytes b) : (strOfNums (ofN a)).toList = (strOfNums (ofN b)).toList ↔ a = b := by
  constructor
  · intro h
    rw [ByteArray.toList_eq, ByteArray.toList_eq] at h
    simp only [strOfNums, ofN, List.map_map] at h
    have f : ∀ (l : List Nat), Bytes l → (l.map ((fun n : Int => UInt8.ofNat n.toNat) ∘ fun (n : Nat) => (n : Int))).map (fun u => u.toNat) = l := by
      intro l hl
      rw [List.map_map]
      conv => rhs; rw [← List.map_id l]
      refine List.map_congr_left fun x hx => ?_
      have := hl x hx
      simp
      omega
    rw [← f a ha, ← f b hb, h]
  · rintro rfl; rfl
theorem cut_M (m : List Nat) (at_ : Nat) (h : at_ + 33 < 9223372036854775808) : ((ofN m).take (wrap64 ((at_ : Int) + 33) : Int).toNat).drop ((at_ : Int)).toNat = ofN ((m.drop at_).take 33) := by
  have e : (wrap64 ((at_ : Int) + 33)).toNat = at_ + 33 := by rw [i64w (by omega) (by omega)]; omega
  rw [e, Int.toNat_natCast, ofN_take, ofN_drop, List.drop_take, Nat.add_sub_cancel_left]
theorem sub_take (D : List Nat) (i : Nat) (hi : i + 8 ≤ 33) : ((D.take 33).drop i).take 8 = (D.drop i).take 8 := by
  rw [List.drop_take, List.take_take, Nat.min_eq_left (by omega)]
theorem take8_le (x : List Nat) (hx : Bytes x) (h : 8 ≤ x.length) : leN 8 (valN (x.take 8)) = x.take 8 := by
  have e : (x.take 8).length = 8 := by rw [List.length_take]; omega
  have := leN_valN (x.take 8) (hx.take 8)
  rwa [e] at this
theorem val8_lt (x : List Nat) (hx : Bytes x) : valN (x.take 8) < 18446744073709551616 := by
  have h1 := valN_lt (x.take 8) (hx.take 8)
  have h2 : (x.take 8).length ≤ 8 := by rw [List.length_take]; omega
  exact Nat.lt_of_lt_of_le h1 (Nat.le_trans (Nat.pow_le_pow_right (by decide) h2) (by decide))
theorem body_again (D : List Nat) (hD : Bytes D) (h33 : 33 ≤ D.length) :
    bodyN ((D.getD 0 0 : Nat) : Int) (iw (valN ((D.drop 1).take 8))) (iw (valN ((D.drop 9).take 8))) (iw (valN ((D.drop 17).take 8))) = D.take 25 := by
  have hb := bytes_get hD 0
  unfold bodyN
  rw [uw_iw _ (val8_lt _ (hD.drop 1)), uw_iw _ (val8_lt _ (hD.drop 9)), uw_iw _ (val8_lt _ (hD.drop 17)), take8_le _ (hD.drop 1) (by rw [List.length_drop]; omega), take8_le _ (hD.drop 9) (by rw [List.length_drop]; omega), take8_le _ (hD.drop 17) (by rw [List.length_drop]; omega)]
  have e0 : (((D.getD 0 0 : Nat) : Int) % 256).toNat = D.getD 0 0 := by omega
  rw [e0]
  have e1 : D = D.getD 0 0 :: D.drop 1 := by have := drop_getD D 0 (by omega); rwa [List.drop_zero] at this
  have e2 : (D.drop 1).take 24 = (D.drop 1).take 8 ++ ((D.drop 9).take 8 ++ (D.drop 17).take 8) := by
    have a1 : (D.drop 1).take 24 = (D.drop 1).take 8 ++ ((D.drop 1).drop 8).take 16 := by rw [show (24 : Nat) = 8 + 16 from rfl, List.take_add]
    have a2 : ((D.drop 1).drop 8).take 16 = (D.drop 9).take 8 ++ ((D.drop 9).drop 8).take 8 := by rw [List.drop_drop, show (16 : Nat) = 8 + 8 from rfl, List.take_add]
    rw [a1, a2, List.drop_drop]
  conv => rhs; rw [e1]
  rw [show (25 : Nat) = 24 + 1 from rfl, List.take_succ_cons, e2]
theorem frame_again (D : List Nat) (hD : Bytes D) (h33 : 33 ≤ D.length) (s : Nat) :
    frameN s ((D.getD 0 0 : Nat) : Int) (iw (valN ((D.drop 1).take 8))) (iw (valN ((D.drop 9).take 8))) (iw (valN ((D.drop 17).take 8))) = D.take 33 ↔ valN ((D.drop 25).take 8) = sumN sum0 (leN 8 s ++ D.take 25) := by
  have hb := body_again D hD h33
  unfold frameN nextN
  rw [hb]
  have e : D.take 33 = D.take 25 ++ (D.drop 25).take 8 := by rw [show (33 : Nat) = 25 + 8 from rfl, List.take_add]
  rw [e]
  have h8 := take8_le (D.drop 25) (hD.drop 25) (by rw [List.length_drop]; omega)
  have hlt : sumN sum0 (leN 8 s ++ D.take 25) < 256 ^ 8 := Nat.lt_of_lt_of_le (sumN_lt _ _ (by decide)) (by decide)
  constructor
  · intro h
    have h' := List.append_cancel_left h
    rw [← h', valN_leN 8 _ hlt]
  · intro h
    rw [← h, h8]
theorem rread_l0 (m : List Nat) (hm : Bytes m) (hl : m.length < 1000000000) (c : Nat) : ∀ (out : List S29) (s at_ : Nat), 4096 - out.length = c → out.length ≤ 4096 → at_ ≤ m.length → s < 18446744073709551616 →
    Ev (fun k => tombolaref46_Read.l0 k (ofN m) out (s : Int) (at_ : Int)) (out ++ (readN c s (m.drop at_)).1, ((at_ + (readN c s (m.drop at_)).2 : Nat) : Int)) := by
  have hlen := ofN_length m
  have stop : ∀ (out : List S29) (s at_ : Int), Ev (fun k => tombolaref46_Read.j1 k (ofN m) out s at_ false) (out, at_) := by
    intro out s at_
    refine Ev.step (f := fun _ => some _) (fun k => ?_) (Ev.now _)
    simp only [tombolaref46_Read.j1]
    rw [if_neg (by decide)]
  induction c with
  | zero =>
    intro out s at_ hc hout hat hs
    have h0 : readN 0 s (m.drop at_) = ([], 0) := rfl
    rw [h0, List.append_nil, Nat.add_zero]
    refine Ev.step (fun k => ?_) (stop out s at_)
    simp only [tombolaref46_Read.l0]
    rw [show decide ((out.length : Int) < 4096) = false from decide_eq_false (by omega)]
    simp
  | succ c ih =>
    intro out s at_ hc hout hat hs
    have hw : wrap64 ((at_ : Int) + 33) = ((at_ + 33 : Nat) : Int) := by rw [i64w (by omega) (by omega)]; omega
    by_cases h33 : at_ + 33 ≤ m.length
    · have hD : 33 ≤ (m.drop at_).length := by rw [List.length_drop]; omega
      have hcm := cut_M m at_ (by omega)
      have hm' := hm.drop at_
      have hd33 : m.drop (at_ + 33) = (m.drop at_).drop 33 := by rw [List.drop_drop]
      have J : Ev (fun k => tombolaref46_Read.j1 k (ofN m) out (s : Int) (at_ : Int) true) (out ++ (readN (c + 1) s (m.drop at_)).1, ((at_ + (readN (c + 1) s (m.drop at_)).2 : Nat) : Int)) := by
        have ihh := fun (o : S29) (n : Nat) (hn : n < 18446744073709551616) => ih (out ++ [o]) n (at_ + 33) (by rw [List.length_append]; simp; omega) (by rw [List.length_append]; simp; omega) (by omega) hn
        rw [hd33] at ihh
        generalize m.drop at_ = D at *
        have hF : Bytes (D.take 33) := hm'.take 33
        have hFl : (D.take 33).length = 33 := by rw [List.length_take]; omega
        have q0 : wrap64 (rd (ofN (D.take 33)) 0) = ((D.getD 0 0 : Nat) : Int) := by
          rw [rd0 _ hF]; congr 1
          rw [List.getD_eq_getElem?_getD, List.getD_eq_getElem?_getD, List.getElem?_take_of_lt (by omega)]
        have R1 := rnumber_ev _ (hF.drop 1) (by rw [List.length_drop]; omega)
        have R9 := rnumber_ev _ (hF.drop 9) (by rw [List.length_drop]; omega)
        have R17 := rnumber_ev _ (hF.drop 17) (by rw [List.length_drop]; omega)
        rw [sub_take D 1 (by omega)] at R1
        rw [sub_take D 9 (by omega)] at R9
        rw [sub_take D 17 (by omega)] at R17
        have hb := bytes_get hm' 0
        have RF := rframe_ev s hs ((D.getD 0 0 : Nat) : Int) (iw (valN ((D.drop 1).take 8))) (iw (valN ((D.drop 9).take 8))) (iw (valN ((D.drop 17).take 8))) ⟨by omega, by omega⟩
        have hag := frame_again D hm' hD s
        apply Ev.step
        case h =>
          intro k
          simp only [tombolaref46_Read.j1]
          rw [if_pos trivial, if_pos (by omega), if_pos (by omega), if_pos (by omega), hcm, if_pos (by rw [ofN_length]; omega), if_pos (by rw [ofN_length]; omega), ofN_drop]
        refine Ev.bind R1 ?_
        refine Ev.congr (fun k => by rw [if_pos (by rw [ofN_length]; omega), ofN_drop]) (Ev.bind R9 ?_)
        refine Ev.congr (fun k => by rw [if_pos (by rw [ofN_length]; omega), ofN_drop]) (Ev.bind R17 ?_)
        refine Ev.congr (fun k => by rw [q0]; rfl) (Ev.bind RF ?_)
        refine Ev.congr (fun k => by rw [rname_eq]) (Ev.bind (ev_some (nameOf ((D.getD 0 0 : Nat) : Int))) ?_)
        by_cases hk : (nameOf ((D.getD 0 0 : Nat) : Int)).toList = []
        · have ho : oneN s D = none := by unfold oneN; rw [if_neg (by omega), if_pos hk]
          refine Ev.congr (fun k => by rw [if_pos hk]) ?_
          have er : readN (c + 1) s D = ([], 0) := by rw [readN, ho]
          rw [er, List.append_nil, Nat.add_zero]
          exact Ev.now _
        · refine Ev.congr (fun k => by rw [if_neg hk]) ?_
          by_cases hsum : valN ((D.drop 25).take 8) = sumN sum0 (leN 8 s ++ D.take 25)
          · have hfr := hag.2 hsum
            have ho : oneN s D = some (⟨((D.getD 0 0 : Nat) : Int), iw (valN ((D.drop 1).take 8)), iw (valN ((D.drop 9).take 8)), iw (valN ((D.drop 17).take 8))⟩, sumN sum0 (leN 8 s ++ D.take 25)) := by unfold oneN; rw [if_neg (by omega), if_neg hk, if_pos hsum]
            have hn : nextN s ((D.getD 0 0 : Nat) : Int) (iw (valN ((D.drop 1).take 8))) (iw (valN ((D.drop 9).take 8))) (iw (valN ((D.drop 17).take 8))) = sumN sum0 (leN 8 s ++ D.take 25) := by unfold nextN; rw [body_again D hm' hD]
            have h' := ihh ⟨((D.getD 0 0 : Nat) : Int), iw (valN ((D.drop 1).take 8)), iw (valN ((D.drop 9).take 8)), iw (valN ((D.drop 17).take 8))⟩ (sumN sum0 (leN 8 s ++ D.take 25)) (sumN_lt _ _ (by decide))
            have er : readN (c + 1) s D = (⟨((D.getD 0 0 : Nat) : Int), iw (valN ((D.drop 1).take 8)), iw (valN ((D.drop 9).take 8)), iw (valN ((D.drop 17).take 8))⟩ :: (readN c (sumN sum0 (leN 8 s ++ D.take 25)) (D.drop 33)).1, 33 + (readN c (sumN sum0 (leN 8 s ++ D.take 25)) (D.drop 33)).2) := by rw [readN, ho]
            rw [er]
            rw [List.append_assoc, Nat.add_assoc] at h'
            refine Ev.congr (fun k => ?_) h'
            rw [if_pos (by rw [hfr]), if_pos (by omega), hw, hn]
            rfl
          · have ho : oneN s D = none := by unfold oneN; rw [if_neg (by omega), if_neg hk, if_neg hsum]
            have er : readN (c + 1) s D = ([], 0) := by rw [readN, ho]
            rw [er, List.append_nil, Nat.add_zero]
            refine Ev.congr (fun k => ?_) (Ev.now _)
            rw [if_neg (fun q => hsum (hag.1 ((str_inj _ _ (frameN_bytes _ _ _ _ _) hF).1 q)))]
      refine Ev.step (fun k => ?_) J
      simp only [tombolaref46_Read.l0]
      rw [if_pos (by omega), show decide ((out.length : Int) < 4096) = true from decide_eq_true (by omega)]
    · have ho : oneN s (m.drop at_) = none := by unfold oneN; rw [if_pos (by rw [List.length_drop]; omega)]
      have er : readN (c + 1) s (m.drop at_) = ([], 0) := by rw [readN, ho]
      rw [er, List.append_nil, Nat.add_zero]
      refine Ev.step (fun k => ?_) (stop out s at_)
      simp only [tombolaref46_Read.l0]
      rw [if_neg (by omega)]
theorem rread_ev (m : List Nat) (hm : Bytes m) (hl : m.length < 1000000000) : Ev (fun k => tombolaref46_Read.f k (ofN m)) ((readN 4096 0 m).1, (((readN 4096 0 m).2 : Nat) : Int)) := by
  have h := rread_l0 m hm hl 4096 [] 0 0 rfl (by decide) (by omega) (by decide)
  have h2 : Ev (fun k => tombolaref46_Read.l0 k (ofN m) [] 0 0) ((readN 4096 0 m).1, (((readN 4096 0 m).2 : Nat) : Int)) := by simpa using h
  exact h2
end Go.Proofs.YtocgbbhppegccaaDoor.N
end
section
namespace Go.Proofs.YtocgbbhppegccaaDoor.N
open Go Go.RowKit Go.Proofs.YtocgbbhppegccaaDoor.F Go.Proofs.YtocgbbhppegccaaDoorW.PrintWords Go.Proofs.YtocgbbhppegccaaDoorW.PrintLast Go.Proofs.YtocgbbhppegccaaDoorW.PrintMore
set_option linter.unusedSimpArgs false
set_option linter.unusedVariables false
def OpOk (o : S29) : Prop := knownI o.f0 ∧ (-9223372036854775808 ≤ o.f1 ∧ o.f1 < 9223372036854775808) ∧ (-9223372036854775808 ≤ o.f2 ∧ o.f2 < 9223372036854775808) ∧ (-9223372036854775808 ≤ o.f3 ∧ o.f3 < 9223372036854775808)
def fr (s : Nat) (o : S29) : List Nat := frameN s o.f0 o.f1 o.f2 o.f3
def nx (s : Nat) (o : S29) : Nat := nextN s o.f0 o.f1 o.f2 o.f3
def layN : Nat → List S29 → List Nat × Nat
  | s, [] => ([], s)
  | s, o :: l => (fr s o ++ (layN (nx s o) l).1, (layN (nx s o) l).2)
theorem layN_cons (s : Nat) (o : S29) (l : List S29) : layN s (o :: l) = (fr s o ++ (layN (nx s o) l).1, (layN (nx s o) l).2) := rfl
theorem layN_nil (s : Nat) : layN s [] = ([], s) := rfl
theorem fr_length (s : Nat) (o : S29) : (fr s o).length = 33 := frameN_length ..
theorem fr_bytes (s : Nat) (o : S29) : Bytes (fr s o) := frameN_bytes _ _ _ _ _
theorem lay_length (l : List S29) (s : Nat) : (layN s l).1.length = 33 * l.length := by
  induction l generalizing s with
  | nil => rfl
  | cons o l ih => simp only [layN, List.length_append, fr_length, ih, List.length_cons]; omega
theorem lay_bytes (l : List S29) (s : Nat) : Bytes (layN s l).1 := by
  induction l generalizing s with
  | nil => intro x hx; cases hx
  | cons o l ih => exact Bytes.app (fr_bytes s o) (ih _)
theorem lay_lt (l : List S29) (s : Nat) (hs : s < 18446744073709551616) : (layN s l).2 < 18446744073709551616 := by
  induction l generalizing s with
  | nil => exact hs
  | cons o l ih =>
    have h := ih (nx s o) (nextN_lt s o.f0 o.f1 o.f2 o.f3)
    rw [layN_cons]
    exact h
theorem lay_snoc (l : List S29) : ∀ (s : Nat) (o : S29), layN s (l ++ [o]) = ((layN s l).1 ++ fr (layN s l).2 o, nx (layN s l).2 o) := by
  induction l with
  | nil => intro s o; rw [List.nil_append, layN_cons, layN_nil, layN_nil, List.append_nil, List.nil_append]
  | cons p l ih => intro s o; rw [List.cons_append, layN_cons, layN_cons, ih (nx s p) o, List.append_assoc]
theorem fr_parts (s : Nat) (o : S29) : fr s o = (bodyN o.f0 o.f1 o.f2 o.f3) ++ leN 8 (nx s o) := rfl
theorem take25 (s : Nat) (o : S29) (rest : List Nat) : (fr s o ++ rest).take 25 = bodyN o.f0 o.f1 o.f2 o.f3 := by
  rw [fr_parts, List.append_assoc, List.take_append_of_le_length (by rw [bodyN_length]; exact Nat.le_refl _), List.take_of_length_le (by rw [bodyN_length]; exact Nat.le_refl _)]
theorem drop25 (s : Nat) (o : S29) (rest : List Nat) : ((fr s o ++ rest).drop 25).take 8 = leN 8 (nx s o) := by
  have e : (fr s o ++ rest).drop 25 = leN 8 (nx s o) ++ rest := by
    rw [fr_parts, List.append_assoc]
    exact List.drop_left' (bodyN_length _ _ _ _)
  rw [e]
  exact List.take_left' (leN_length _ _)
theorem nx_eq (s : Nat) (o : S29) : nx s o = sumN sum0 (leN 8 s ++ bodyN o.f0 o.f1 o.f2 o.f3) := rfl
theorem nx_lt (s : Nat) (o : S29) : nx s o < 256 ^ 8 := Nat.lt_of_lt_of_le (nextN_lt s o.f0 o.f1 o.f2 o.f3) (by decide)
theorem body_at (a0 a1 a2 a3 : Int) (X : List Nat) : ((bodyN a0 a1 a2 a3 ++ X).drop 1).take 8 = leN 8 (uw a1) ∧ ((bodyN a0 a1 a2 a3 ++ X).drop 9).take 8 = leN 8 (uw a2) ∧ ((bodyN a0 a1 a2 a3 ++ X).drop 17).take 8 = leN 8 (uw a3) := by
  have e1 : (bodyN a0 a1 a2 a3 ++ X).drop 1 = leN 8 (uw a1) ++ (leN 8 (uw a2) ++ (leN 8 (uw a3) ++ X)) := by simp [bodyN]
  have e9 : (bodyN a0 a1 a2 a3 ++ X).drop 9 = leN 8 (uw a2) ++ (leN 8 (uw a3) ++ X) := by
    rw [show (9 : Nat) = 1 + 8 from rfl, ← List.drop_drop, e1]; exact List.drop_left' (leN_length _ _)
  have e17 : (bodyN a0 a1 a2 a3 ++ X).drop 17 = leN 8 (uw a3) ++ X := by
    rw [show (17 : Nat) = 9 + 8 from rfl, ← List.drop_drop, e9]; exact List.drop_left' (leN_length _ _)
  rw [e1, e9, e17]
  exact ⟨List.take_left' (leN_length _ _), List.take_left' (leN_length _ _), List.take_left' (leN_length _ _)⟩
theorem body0 (a0 a1 a2 a3 : Int) (X : List Nat) : (bodyN a0 a1 a2 a3 ++ X).getD 0 0 = (a0 % 256).toNat := by simp [bodyN]
theorem one_frame (s : Nat) (o : S29) (ho : OpOk o) (rest : List Nat) : oneN s (fr s o ++ rest) = some (o, nx s o) := by
  obtain ⟨hk, h1, h2, h3⟩ := ho
  have hk' := hk
  unfold knownI at hk'
  have e0 : (((fr s o ++ rest).getD 0 0 : Nat) : Int) = o.f0 := by rw [fr_parts, List.append_assoc, body0]; omega
  obtain ⟨q1, q2, q3⟩ := body_at o.f0 o.f1 o.f2 o.f3 (leN 8 (nx s o) ++ rest)
  rw [← List.append_assoc, ← fr_parts] at q1 q2 q3
  unfold oneN
  rw [if_neg (by rw [List.length_append, fr_length]; omega), e0, if_neg (by rw [name_iff]; exact fun q => q hk), take25, drop25, valN_leN 8 _ (nx_lt s o), if_pos (nx_eq s o), q1, q2, q3, ← nx_eq]
  have v : ∀ a : Int, valN (leN 8 (uw a)) = uw a := fun a => valN_leN 8 _ (Nat.lt_of_lt_of_le (uw_lt a) (by decide))
  rw [v, v, v, iw_uw _ h1, iw_uw _ h2, iw_uw _ h3]
theorem one_short (s : Nat) (m : List Nat) (h : m.length < 33) : oneN s m = none := by unfold oneN; rw [if_pos h]
theorem read_lay (l : List S29) : ∀ (s c cut : Nat), (∀ o, o ∈ l → OpOk o) → l.length < c → cut ≤ 33 * l.length → readN c s ((layN s l).1.take cut) = (l.take (cut / 33), cut / 33 * 33) := by
  induction l with
  | nil =>
    intro s c cut _ hc hcut
    obtain rfl : cut = 0 := by simp at hcut; omega
    obtain ⟨c, rfl⟩ : ∃ d, c = d + 1 := ⟨c - 1, by simp at hc; omega⟩
    rw [readN, one_short _ _ (by simp)]
    simp
  | cons o l ih =>
    intro s c cut hok hc hcut
    rw [List.length_cons] at hc hcut
    obtain ⟨c, rfl⟩ : ∃ d, c = d + 1 := ⟨c - 1, by omega⟩
    by_cases h : cut < 33
    · rw [readN, one_short _ _ (by rw [List.length_take]; omega), Nat.div_eq_of_lt h]; simp
    · have e : (layN s (o :: l)).1.take cut = fr s o ++ (layN (nx s o) l).1.take (cut - 33) := by
        simp only [layN]
        rw [List.take_append, fr_length, List.take_of_length_le (by rw [fr_length]; omega)]
      have ed : (fr s o ++ (layN (nx s o) l).1.take (cut - 33)).drop 33 = (layN (nx s o) l).1.take (cut - 33) := List.drop_left' (fr_length s o)
      have h' := ih (nx s o) c (cut - 33) (fun p hp => hok p (List.mem_cons_of_mem _ hp)) (by omega) (by omega)
      rw [e, readN, one_frame s o (hok o (List.mem_cons_self ..))]
      simp only [ed, h']
      have e3 : cut / 33 = (cut - 33) / 33 + 1 := by omega
      rw [e3, List.take_succ_cons]
      congr 1; omega
theorem ops_l0 (l : List S29) (hl : l.length < 1000000000) (d : Nat) : ∀ j : Nat, l.length - j = d → j ≤ l.length → Ev (fun k => tombolaref46_Ops.l0 k l l (j : Int)) true := by
  induction d with
  | zero =>
    intro j hd hj
    refine Ev.step (f := fun _ => some _) (fun k => ?_) (Ev.now _)
    simp only [tombolaref46_Ops.l0]
    rw [if_neg (by omega)]
  | succ d ih =>
    intro j hd hj
    refine Ev.step (fun k => ?_) (ih (j + 1) (by omega) (by omega))
    simp only [tombolaref46_Ops.l0]
    rw [if_pos (by omega), if_pos (by omega), if_pos (by omega), if_neg (by simp), i64w (by omega) (by omega)]
    rfl
theorem ops_ev (l : List S29) (hl : l.length < 1000000000) : Ev (fun k => tombolaref46_Ops.f k l l) true := by
  refine Ev.congr (fun k => ?_) (ops_l0 l hl _ 0 rfl (Nat.zero_le _))
  unfold tombolaref46_Ops.f
  rw [if_pos rfl]; rfl
end Go.Proofs.YtocgbbhppegccaaDoor.N
end
