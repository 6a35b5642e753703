import Derived.Test.YtogdooclldoomaaWireText
import Derived.Test.YtogdooclldoomaaFWireA
import Derived.Test.YtogdooclldoomaaFRef05A
namespace Go.Proofs.Ytogdooclldoomaa.F
open Go.RowKit Go.Proofs.YtogdooclldoomaaW.PrintWords Go.Proofs.YtogdooclldoomaaW.PrintLast Go.Proofs.YtogdooclldoomaaW.PrintMore
set_option linter.unusedSimpArgs false
set_option linter.unusedVariables false
/-! Numbers as bytes, without the program. -/
theorem wrap_u64 (n : Int) : IntKind.u64.wrap n = n % 18446744073709551616 := by simp [IntKind.wrap, IntKind.bits, IntKind.signed]
theorem wraps_u64 (n : Int) (h₀ : 0 ≤ n) (h₁ : n < 2 ^ 64) : IntKind.u64.wrap n = n := by rw [wrap_u64]; omega
theorem bits_or_comm (k : IntKind) (a b : Int) : Go.bits .or k a b = Go.bits .or k b a := by
  unfold Go.bits
  simp only
  rw [BitVec.or_comm]
theorem low7 (c : Int) (h0 : 0 ≤ c) (h1 : c < 256) : Go.bits .and .u8 c 127 = c % 128 := bits_mask .u8 8 (by decide) wraps_u8 7 (by decide) c h0 h1
theorem low7w (c : Int) (h0 : 0 ≤ c) (h1 : c < 18446744073709551616) : Go.bits .and .u64 c 127 = c % 128 := bits_mask .u64 64 (by decide) wraps_u64 7 (by decide) c h0 h1
theorem or128 (a : Int) (h0 : 0 ≤ a) (h1 : a < 128) : Go.bits .or .u64 a 128 = 128 + a := by
  rw [bits_or_comm]
  exact bits_join .u64 64 (by decide) wraps_u64 7 128 a (by decide) (by decide) (by decide) h0 (by omega) (by omega)
/-- A number's bytes. -/
def encF : Nat → Int → List Int
  | 0, n => [n]
  | f + 1, n => if n < 128 then [n] else (n % 128 + 128) :: encF f (n / 128)
def enc (n : Int) : List Int := encF 9 n
theorem encF_len : ∀ (f : Nat) (n : Int), 0 < (encF f n).length ∧ (encF f n).length ≤ f + 1 := by
  intro f
  induction f with
  | zero => intro n; exact ⟨by simp [encF], by simp [encF]⟩
  | succ f ih =>
    intro n
    unfold encF
    split
    · exact ⟨by simp, by simp⟩
    · have := ih (n / 128)
      simp only [List.length_cons]
      omega
theorem put_l1 (r : List Int) (x10 : List Int) (x11 x12 : Int) : ∀ (f : Nat) (k : Nat) (x5 : List Int) (x7 : Int), 0 ≤ x7 → x7 < 18446744073709551616 → x7 < 128 ^ (f + 1) → x5.length + f + 1 < 140737488355328 →
    wire_Put.l0 k (x5 ++ encF f x7) x10 x11 (wrap64 (x12 + 1)) = some r → wire_Put.l1 (k + f + 1) x5 x7 x10 x11 x12 = some r := by
  intro f
  induction f with
  | zero =>
    intro k x5 x7 h0 hw h1 hl h
    unfold wire_Put.l1
    have h1' : x7 < 128 := by simpa using h1
    rw [if_neg (by omega), if_pos (by omega), Int.emod_eq_of_lt h0 (by omega)]
    exact h
  | succ f ih =>
    intro k x5 x7 h0 hw h1 hl h
    unfold wire_Put.l1
    unfold encF at h
    by_cases h2 : x7 < 128
    · rw [if_pos h2] at h
      rw [if_neg (by omega), if_pos (by omega), Int.emod_eq_of_lt h0 (by omega)]
      exact more_rounds (fun k => (wire_Put.mono_l k).1 _ _ _ _) k (f + 1) r h
    · rw [if_neg h2] at h
      rw [if_pos (by omega), if_pos (by omega), low7w x7 h0 hw, or128 _ (by omega) (by omega)]
      have e : (128 + x7 % 128) % 256 = x7 % 128 + 128 := by omega
      rw [e]
      refine ih k _ _ (by omega) (by omega) ?_ (by simp only [List.length_append, List.length_cons, List.length_nil]; omega) (by rw [List.append_assoc]; exact h)
      have e2 : (128 : Int) ^ (f + 1 + 1) = 128 ^ (f + 1) * 128 := Int.pow_succ _ _
      rw [e2] at h1
      generalize (128 : Int) ^ (f + 1) = p at h1 ⊢
      omega
theorem put_l0 (l : List Int) (hw : ∀ x ∈ l, 0 ≤ x ∧ x < 18446744073709551616) (hl : l.length ≤ 1000) : ∀ (m i : Nat) (out : List Int), i + m = l.length → out.length + m * 10 ≤ 100000 →
    ∃ k, wire_Put.l0 k out l (l.length : Int) (i : Int) = some (out ++ (l.drop i).flatMap enc) := by
  intro m
  induction m with
  | zero =>
    intro i out hi ho
    refine ⟨1, ?_⟩
    unfold wire_Put.l0
    rw [if_neg (by omega), List.drop_eq_nil_of_le (by omega)]
    simp
  | succ m ih =>
    intro i out hi ho
    have hlt : i < l.length := by omega
    have hx := hw l[i] (List.getElem_mem hlt)
    have hle := encF_len 9 l[i]
    obtain ⟨k, hk⟩ := ih (i + 1) (out ++ enc l[i]) (by omega) (by rw [List.length_append]; unfold enc; omega)
    refine ⟨k + 9 + 1 + 1, ?_⟩
    unfold wire_Put.l0
    rw [if_pos (by omega), if_pos (by omega), if_pos (by omega), show rd l (i : Int) = l[i] by simp [rd, hlt]]
    refine put_l1 _ l _ _ 9 k out l[i] hx.1 hx.2 (by omega) (by omega) ?_
    rw [show wrap64 ((i : Int) + 1) = ((i + 1 : Nat) : Int) by unfold wrap64; omega]
    rw [List.drop_eq_getElem_cons hlt, List.flatMap_cons, ← List.append_assoc]
    exact hk
theorem put_all (b l : List Int) (hb : b.length ≤ 1000) (hl : l.length ≤ 1000) (hw : ∀ x ∈ l, 0 ≤ x ∧ x < 18446744073709551616) : ∃ k, wire_Put.f k b l = some (b ++ l.flatMap enc) := by
  obtain ⟨k, hk⟩ := put_l0 l hw hl l.length 0 b (by omega) (by omega)
  refine ⟨k, ?_⟩
  unfold wire_Put.f slices_Clone_byte_byte.f
  rw [if_pos (by omega)]
  simpa using hk
theorem flat_len (l : List Int) : (l.flatMap enc).length ≤ l.length * 10 := by
  induction l with
  | nil => simp
  | cons x l ih => have := encF_len 9 x; simp only [List.flatMap_cons, List.length_append, List.length_cons]; unfold enc; unfold enc at ih; omega
theorem putText_all (b : List Int) (s : ByteArray) (hb : b.length ≤ 1000) (hs : s.size ≤ 1000) : ∃ k, wire_PutText.f k b s = some (b ++ enc (s.size : Int) ++ bytesOf s) := by
  have e : IntKind.u64.wrap (s.size : Int) = (s.size : Int) := by rw [wrap_u64]; omega
  obtain ⟨k, hk⟩ := put_all b [(s.size : Int)] hb (by simp) (by intro x hx; simp at hx; omega)
  refine ⟨k, ?_⟩
  unfold wire_PutText.f
  rw [e, hk]
  have h1 := encF_len 9 (s.size : Int)
  simp only [Option.bind_some, List.flatMap_cons, List.flatMap_nil, List.append_nil]
  rw [if_pos (by rw [List.length_append]; unfold enc; omega)]
end Go.Proofs.Ytogdooclldoomaa.F
