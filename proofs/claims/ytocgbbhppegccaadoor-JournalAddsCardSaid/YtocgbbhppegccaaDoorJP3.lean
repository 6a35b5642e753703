-- Cut for this claim by a program (wip/prune.py) out of the texts that its bench laid or wrote
import Derived.Test.YtocgbbhppegccaaDoorJP2
import Derived.Test.YtocgbbhppegccaaDoorFJournalB
import Derived.Test.YtocgbbhppegccaaDoorFRef46B
namespace Go.Proofs.YtocgbbhppegccaaDoor.N
open Go Go.RowKit Go.Proofs.YtocgbbhppegccaaDoor.F Go.Proofs.YtocgbbhppegccaaDoorW.PrintWords Go.Proofs.YtocgbbhppegccaaDoorW.PrintLast Go.Proofs.YtocgbbhppegccaaDoorW.PrintMore
set_option linter.unusedSimpArgs false
set_option linter.unusedVariables false
theorem valN_snoc (l : List Nat) (x : Nat) : valN (l ++ [x]) = valN l + 256 ^ l.length * x := by
  induction l with
  | nil => simp [valN]
  | cons y l ih => simp only [List.cons_append, valN, ih, List.length_cons, Nat.pow_succ]; grind
theorem take_getD (m : List Nat) (j : Nat) (h : j < m.length) : m.take (j + 1) = m.take j ++ [m.getD j 0] := by
  rw [List.take_succ_eq_append_getElem h, List.getD_eq_getElem?_getD, List.getElem?_eq_getElem h]; rfl
theorem or_step (a b j : Nat) (ha : a < 256 ^ j) (hb : b < 256) (hj : j < 8) : Go.bits .or .u64 (a : Int) (shl .u64 (IntKind.u64.wrap (b : Int)) (wrap64 (8 * (j : Int)))) = ((a + 256 ^ j * b : Nat) : Int) := by
  have p : 256 ^ j = 2 ^ (8 * j) := by rw [show (256 : Nat) = 2 ^ 8 from rfl, ← Nat.pow_mul]
  have hlt : 256 ^ j * 256 ≤ 18446744073709551616 := by
    have h1 : 256 ^ j ≤ 256 ^ 7 := Nat.pow_le_pow_right (by decide) (by omega)
    have h2 := Nat.mul_le_mul_right 256 h1
    exact Nat.le_trans h2 (by decide)
  have hsum : 256 ^ j * b + a < 18446744073709551616 := by
    have h3 : 256 ^ j * b ≤ 256 ^ j * 255 := Nat.mul_le_mul_left _ (by omega)
    have h4 : 256 ^ j * 255 + 256 ^ j = 256 ^ j * 256 := by rw [← Nat.mul_succ]
    omega
  have e1 : wrap64 (8 * (j : Int)) = ((8 * j : Nat) : Int) := by rw [i64w (by omega) (by omega)]; omega
  have e : IntKind.bits .u64 = 64 := rfl
  have hsl : shl .u64 (b : Int) ((8 * j : Nat) : Int) = ((256 ^ j * b : Nat) : Int) := by
    unfold shl
    rw [Int.toNat_natCast, e, Nat.min_eq_left (by omega)]
    have q : (b : Int) * 2 ^ (8 * j) = ((256 ^ j * b : Nat) : Int) := by rw [p, Int.natCast_mul, Int.natCast_pow, Int.mul_comm]; rfl
    rw [q, u64n _ (by omega)]
  rw [u64n b (by omega), e1, hsl, bits_or_u64_nat a _ (by omega) (by omega)]
  congr 1
  have h := Nat.two_pow_add_eq_or_of_lt (i := 8 * j) (b := a) (by rw [← p]; exact ha) b
  rw [← p] at h
  rw [Nat.or_comm, ← h, Nat.add_comm]
theorem num_l0 (m : List Nat) (hm : Bytes m) (hl : m.length = 8) (d : Nat) : ∀ j : Nat, 8 - j = d → j ≤ 8 → Ev (fun k => journal_number.l0 k ((valN (m.take j) : Nat) : Int) (ofN m) (m.length : Int) (j : Int)) ((valN m : Nat) : Int) := by
  induction d with
  | zero =>
    intro j hd hj
    obtain rfl : j = 8 := by omega
    refine Ev.step (f := fun _ => some _) (fun k => ?_) (Ev.now _)
    simp only [journal_number.l0]
    rw [if_neg (by omega), List.take_of_length_le (by omega)]
  | succ d ih =>
    intro j hd hj
    have hlt : j < m.length := by omega
    have hb := bytes_get hm j
    have ha : valN (m.take j) < 256 ^ j := by
      have := valN_lt (m.take j) (hm.take j)
      rwa [List.length_take, Nat.min_eq_left (by omega)] at this
    have e := or_step _ _ j ha hb (by omega)
    have h' := ih (j + 1) (by omega) (by omega)
    have ev : valN (m.take (j + 1)) = valN (m.take j) + 256 ^ j * m.getD j 0 := by
      rw [take_getD m j hlt, valN_snoc, List.length_take, Nat.min_eq_left (by omega)]
    rw [ev] at h'
    refine Ev.step (fun k => ?_) h'
    have c0 : (0 : Int) ≤ wrap64 (8 * (j : Int)) := by rw [i64w (by omega) (by omega)]; omega
    simp only [journal_number.l0]
    rw [if_pos (by omega), if_pos (by omega), if_pos (by rw [ofN_length]; omega), if_pos c0, rd_ofN, e, i64w (by omega) (by omega)]
    rfl
theorem number_ev (m : List Nat) (hm : Bytes m) (hl : 8 ≤ m.length) : Ev (fun k => journal_number.f k (ofN m)) ((valN (m.take 8) : Nat) : Int) := by
  have h8 : (m.take 8).length = 8 := by rw [List.length_take]; omega
  have h := num_l0 (m.take 8) (hm.take 8) h8 8 0 rfl (by omega)
  refine Ev.congr (fun k => ?_) h
  unfold journal_number.f
  rw [if_pos (by rw [ofN_length]; omega), ofN_take, ofN_length]
  rfl
theorem rnum_l0 (m : List Nat) (hm : Bytes m) (hl : 8 ≤ m.length) (j : Nat) : j ≤ 8 → Ev (fun k => tombolaref46_number.l0 k (ofN m) ((valN ((m.take 8).drop j) : Nat) : Int) ((j : Int) - 1)) ((valN (m.take 8) : Nat) : Int) := by
  induction j with
  | zero =>
    intro _
    refine Ev.step (f := fun _ => some _) (fun k => ?_) (Ev.now _)
    simp only [tombolaref46_number.l0]
    rw [if_neg (by omega), List.drop_zero]
  | succ j ih =>
    intro hj
    have hb := bytes_get hm j
    have h8 : (m.take 8).length = 8 := by rw [List.length_take]; omega
    have hg : (m.take 8).getD j 0 = m.getD j 0 := by
      rw [List.getD_eq_getElem?_getD, List.getD_eq_getElem?_getD, List.getElem?_take_of_lt (by omega)]
    have ed : (m.take 8).drop j = m.getD j 0 :: (m.take 8).drop (j + 1) := by rw [drop_getD _ j (by omega), hg]
    have h' := ih (by omega)
    rw [ed, show valN (m.getD j 0 :: (m.take 8).drop (j + 1)) = m.getD j 0 + 256 * valN ((m.take 8).drop (j + 1)) from rfl] at h'
    have hv : valN ((m.take 8).drop (j + 1)) < 256 ^ 7 := by
      have h1 := valN_lt _ ((hm.take 8).drop (j + 1))
      rw [List.length_drop, h8] at h1
      exact Nat.lt_of_lt_of_le h1 (Nat.pow_le_pow_right (by decide) (by omega))
    have hv2 : valN ((m.take 8).drop (j + 1)) < 72057594037927936 := Nat.lt_of_lt_of_le hv (by decide)
    generalize valN ((m.take 8).drop (j + 1)) = v at *
    generalize hx : m.getD j 0 = x at *
    have e : IntKind.u64.wrap ((IntKind.u64.wrap ((v : Int) * 256)) + (IntKind.u64.wrap (x : Int))) = ((x + 256 * v : Nat) : Int) := by
      rw [u64n x (by omega), show (v : Int) * 256 = ((v * 256 : Nat) : Int) from by omega, u64n _ (by omega), show ((v * 256 : Nat) : Int) + (x : Int) = ((x + 256 * v : Nat) : Int) from by omega, u64n _ (by omega)]
    refine Ev.step (fun k => ?_) h'
    simp only [tombolaref46_number.l0]
    rw [show ((j + 1 : Nat) : Int) - 1 = (j : Int) from by omega, if_pos (by omega), if_pos (by omega), if_pos (by rw [ofN_length]; omega), rd_ofN, hx, e, i64w (by omega) (by omega)]
theorem rnumber_ev (m : List Nat) (hm : Bytes m) (hl : 8 ≤ m.length) : Ev (fun k => tombolaref46_number.f k (ofN m)) ((valN (m.take 8) : Nat) : Int) := by
  have h := rnum_l0 m hm hl 8 (by omega)
  have h8 : (m.take 8).drop 8 = [] := List.drop_eq_nil_of_le (by rw [List.length_take]; omega)
  rw [h8] at h
  exact h
def uw (a : Int) : Nat := (a % 18446744073709551616).toNat
theorem uw_lt (a : Int) : uw a < 18446744073709551616 := by unfold uw; omega
theorem uw_eq (a : Int) : IntKind.u64.wrap a = ((uw a : Nat) : Int) := by rw [u64_mod]; unfold uw; omega
def bodyN (a0 a1 a2 a3 : Int) : List Nat := (a0 % 256).toNat :: (leN 8 (uw a1) ++ (leN 8 (uw a2) ++ leN 8 (uw a3)))
theorem bodyN_length (a0 a1 a2 a3 : Int) : (bodyN a0 a1 a2 a3).length = 25 := by simp [bodyN, leN_length]
theorem bodyN_bytes (a0 a1 a2 a3 : Int) : Bytes (bodyN a0 a1 a2 a3) := by
  intro x hx
  rcases List.mem_cons.1 hx with rfl | h
  · omega
  · exact ((leN_bytes 8 _).app ((leN_bytes 8 _).app (leN_bytes 8 _))) x h
def nextN (s : Nat) (a0 a1 a2 a3 : Int) : Nat := sumN sum0 (leN 8 s ++ bodyN a0 a1 a2 a3)
theorem nextN_lt (s : Nat) (a0 a1 a2 a3 : Int) : nextN s a0 a1 a2 a3 < 18446744073709551616 := sumN_lt _ _ (by decide)
def frameN (s : Nat) (a0 a1 a2 a3 : Int) : List Nat := bodyN a0 a1 a2 a3 ++ leN 8 (nextN s a0 a1 a2 a3)
theorem frameN_length (s : Nat) (a0 a1 a2 a3 : Int) : (frameN s a0 a1 a2 a3).length = 33 := by simp [frameN, bodyN_length, leN_length]
theorem frameN_bytes (s : Nat) (a0 a1 a2 a3 : Int) : Bytes (frameN s a0 a1 a2 a3) := Bytes.app (bodyN_bytes _ _ _ _) (leN_bytes _ _)
theorem frame_end (s : Nat) (a0 a1 a2 a3 : Int) : Ev (fun k => journal_Frame.l0 k (s : Int) (ofN (bodyN a0 a1 a2 a3)) [a1, a2, a3] 3 3) (ofN (frameN s a0 a1 a2 a3), ((nextN s a0 a1 a2 a3 : Nat) : Int)) := by
  apply Ev.step
  case h =>
    intro k
    simp only [journal_Frame.l0]
    rw [if_neg (by decide)]
  refine Ev.bind (eight_ev s) ?_
  refine Ev.congr (fun k => by rw [if_pos (by rw [ofN_length, ofN_length, leN_length, bodyN_length]; decide), ← ofN_app]) ?_
  refine Ev.bind (sum_ev (leN 8 s ++ bodyN a0 a1 a2 a3) (Bytes.app (leN_bytes _ _) (bodyN_bytes _ _ _ _)) (by rw [List.length_append, leN_length, bodyN_length]; decide)) ?_
  refine Ev.bind (eight_ev (nextN s a0 a1 a2 a3)) ?_
  refine Ev.congr (fun k => ?_) (Ev.now _)
  rw [if_pos (by rw [ofN_length, ofN_length, leN_length, bodyN_length]; decide), ← ofN_app]
  rfl
theorem frame_step (s : Int) (m : List Nat) (a1 a2 a3 : Int) (j : Nat) (hj : j < 3) (a : Int) (ha : rd [a1, a2, a3] (j : Int) = a) (hm : m.length ≤ 100) {r : List Int × Int} (h : Ev (fun k => journal_Frame.l0 k s (ofN (m ++ leN 8 (uw a))) [a1, a2, a3] 3 ((j + 1 : Nat) : Int)) r) :
    Ev (fun k => journal_Frame.l0 k s (ofN m) [a1, a2, a3] 3 (j : Int)) r := by
  apply Ev.step
  case h =>
    intro k
    simp only [journal_Frame.l0]
    rw [if_pos (by omega), if_pos (by omega), if_pos (by simp; omega), ha, uw_eq a]
  refine Ev.bind (eight_ev (uw a)) ?_
  refine Ev.congr (fun k => ?_) h
  rw [if_pos (by rw [ofN_length, ofN_length, leN_length]; omega), ← ofN_app, i64w (by omega) (by omega)]
  rfl
theorem frame_ev (s : Nat) (a0 a1 a2 a3 : Int) : Ev (fun k => journal_Frame.f k (s : Int) a0 a1 a2 a3) (ofN (frameN s a0 a1 a2 a3), ((nextN s a0 a1 a2 a3 : Nat) : Int)) := by
  unfold journal_Frame.f
  simp only [Option.bind_some]
  have h3 := frame_end s a0 a1 a2 a3
  have e : bodyN a0 a1 a2 a3 = (([(a0 % 256).toNat] ++ leN 8 (uw a1)) ++ leN 8 (uw a2)) ++ leN 8 (uw a3) := by simp [bodyN]
  rw [e] at h3
  have h2 := frame_step s _ a1 a2 a3 2 (by decide) a3 rfl (by simp [leN_length]) h3
  have h1 := frame_step s _ a1 a2 a3 1 (by decide) a2 rfl (by simp [leN_length]) h2
  have h0 := frame_step s _ a1 a2 a3 0 (by decide) a1 rfl (by simp) h1
  refine Ev.congr (fun k => ?_) h0
  have e0 : ([a0 % 256] : List Int) = ofN [(a0 % 256).toNat] := by simp [ofN]; omega
  rw [e0]; rfl
theorem rframe_ev (s : Nat) (hs : s < 18446744073709551616) (a0 a1 a2 a3 : Int) (h0 : 0 ≤ a0 ∧ a0 < 256) : Ev (fun k => tombolaref46_Frame.f k (s : Int) a0 a1 a2 a3) (ofN (frameN s a0 a1 a2 a3), ((nextN s a0 a1 a2 a3 : Nat) : Int)) := by
  have e0 : ([(Int.tmod a0 256) % 256] : List Int) = ofN [(a0 % 256).toNat] := by
    rw [Int.tmod_eq_emod_of_nonneg h0.1]; simp [ofN]; omega
  have c1 : ofN [(a0 % 256).toNat] ++ ofN (leN 8 (uw a1)) = ofN ([(a0 % 256).toNat] ++ leN 8 (uw a1)) := (ofN_app ..).symm
  have c2 : ofN ([(a0 % 256).toNat] ++ leN 8 (uw a1)) ++ ofN (leN 8 (uw a2)) = ofN (([(a0 % 256).toNat] ++ leN 8 (uw a1)) ++ leN 8 (uw a2)) := (ofN_app ..).symm
  have c3 : ofN (([(a0 % 256).toNat] ++ leN 8 (uw a1)) ++ leN 8 (uw a2)) ++ ofN (leN 8 (uw a3)) = ofN (bodyN a0 a1 a2 a3) := by rw [← ofN_app]; simp [bodyN]
  unfold tombolaref46_Frame.f
  simp only [Option.bind_some]
  rw [e0]
  refine Ev.congr (fun k => by rw [uw_eq a1]) (Ev.bind (rbytes_ev _ (uw_lt a1)) ?_)
  refine Ev.congr (fun k => by rw [if_pos (by simp [ofN_length, leN_length]), c1]) ?_
  refine Ev.congr (fun k => by rw [uw_eq a2]) (Ev.bind (rbytes_ev _ (uw_lt a2)) ?_)
  refine Ev.congr (fun k => by rw [if_pos (by simp [ofN_length, leN_length]), c2]) ?_
  refine Ev.congr (fun k => by rw [uw_eq a3]) (Ev.bind (rbytes_ev _ (uw_lt a3)) ?_)
  refine Ev.congr (fun k => by rw [if_pos (by simp [ofN_length, leN_length]), c3]) ?_
  refine Ev.bind (rbytes_ev s hs) ?_
  refine Ev.congr (fun k => by rw [if_pos (by rw [ofN_length, ofN_length, leN_length, bodyN_length]; decide), ← ofN_app]) ?_
  refine Ev.bind (rsum_ev (leN 8 s ++ bodyN a0 a1 a2 a3) (Bytes.app (leN_bytes _ _) (bodyN_bytes _ _ _ _)) (by rw [List.length_append, leN_length, bodyN_length]; decide)) ?_
  refine Ev.bind (rbytes_ev (nextN s a0 a1 a2 a3) (nextN_lt ..)) ?_
  refine Ev.congr (fun k => ?_) (Ev.now _)
  rw [if_pos (by rw [ofN_length, ofN_length, leN_length, bodyN_length]; decide), ← ofN_app]
  rfl
end Go.Proofs.YtocgbbhppegccaaDoor.N
