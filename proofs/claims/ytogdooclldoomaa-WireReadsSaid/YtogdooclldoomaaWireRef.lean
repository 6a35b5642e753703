import Derived.Test.YtogdooclldoomaaWirePureB
import Derived.Test.YtogdooclldoomaaFRef05B
namespace Go.Proofs.Ytogdooclldoomaa.F
open Go.RowKit Go.Proofs.YtogdooclldoomaaW.PrintWords Go.Proofs.YtogdooclldoomaaW.PrintLast Go.Proofs.YtogdooclldoomaaW.PrintMore
set_option linter.unusedSimpArgs false
set_option linter.unusedVariables false
/-! The document's reader beside the program's. -/
/-- The world as far as block g. -/
def trunc (W : World) (g : Nat) : World := { W with heap := W.heap.extract 0 g }
theorem trunc_size {W : World} {g : Nat} (h : g ≤ W.heap.size) : (trunc W g).heap.size = g := by simp [trunc, Array.size_extract]; omega
theorem trunc_get {W : World} {g i : Nat} (h : g ≤ W.heap.size) (hi : i < g) : (trunc W g).heap[i]? = W.heap[i]? := by
  simp only [trunc]
  rw [Array.getElem?_extract]
  rw [if_pos (by omega)]
  simp
theorem trunc_below {W : World} {g : Nat} (h : g ≤ W.heap.size) : Below (trunc W g).heap.size (trunc W g) W :=
  ⟨rfl, rfl, rfl, by rw [trunc_size h]; exact h, fun k hk => by rw [trunc_size h] at hk; rw [trunc_get h hk]⟩
/-- The document's reader at block g. -/
def R5 (W : World) (g : Nat) (l : List Int) (at_ e : Int) : Prop := IsS95 (trunc W g) W g l at_ e
theorem R5.lt {W : World} {g : Nat} {l : List Int} {at_ e : Int} (h : R5 W g l at_ e) : g < W.heap.size := IsS95.lt h
theorem R5.tb {W : World} {g : Nat} {l : List Int} {at_ e : Int} (h : R5 W g l at_ e) : Below (trunc W g).heap.size (trunc W g) W := trunc_below (Nat.le_of_lt h.lt)
theorem trunc_mono {W W' : World} {g : Nat} (h : g ≤ W.heap.size) (hb : Below (trunc W g).heap.size (trunc W g) W') : Below (trunc W g).heap.size (trunc W g) (trunc W' g) := by
  have h2 : g ≤ W'.heap.size := by have := hb.size; rw [trunc_size h] at this; exact this
  refine ⟨hb.os, hb.tape, hb.output, by rw [trunc_size h, trunc_size h2]; exact Nat.le_refl _, fun k hk => ?_⟩
  have h3 := hb.block k hk
  rw [trunc_size h] at hk
  rw [trunc_get h2 hk, h3]
/-- What a call of the document's leaves. -/
theorem R5.back {W W' : World} {g : Nat} {l : List Int} {at_ e : Int} (hg : g ≤ W.heap.size) (h : IsS95 (trunc W g) W' g l at_ e) (hb : Below (trunc W g).heap.size (trunc W g) W') : R5 W' g l at_ e := by
  obtain ⟨A, c, h1, h2, h3⟩ := h
  have h4 : g ≤ W'.heap.size := Nat.le_of_lt (blk_lt h1)
  exact ⟨A, c, h1, by rw [trunc_size h4]; exact Nat.le_refl _, Kd.C_below h3 (trunc_mono hg hb)⟩
theorem R5.below {W W' : World} {g : Nat} {l : List Int} {at_ e : Int} (h : R5 W g l at_ e) (hb : Below W.heap.size W W') : R5 W' g l at_ e :=
  R5.back (Nat.le_of_lt h.lt) (IsS95.below h hb) (h.tb.trans (hb.mono h.tb.size))
/-- What a call of the document's keeps of older worlds. -/
theorem below_beside {B : Nat} {w W W' : World} {g : Nat} (h : Below B w W) (hb : Below (trunc W g).heap.size (trunc W g) W') (hk : KeepBut W W' g none) (hB : B ≤ g) (hs : B ≤ W.heap.size) : Below B w W' :=
  h.trans ⟨hb.os, hb.tape, hb.output, hk.1, fun k hlt => hk.2 k (by omega) (by omega) (by simp)⟩
theorem Rd.beside {wa W W' : World} {g gr : Nat} {l : List Int} {e : Int} (h : Rd wa W gr l e) (hk : KeepBut W W' g none) (hne : gr ≠ g) : Rd wa W' gr l e := by
  obtain ⟨A, c, h1, h2⟩ := h
  exact ⟨A, c, hk.blk h1 hne (by simp), h2⟩
/-- The document's reader beside a call of the program's. -/
theorem R5.over {wa W W' : World} {g gr : Nat} {l l2 : List Int} {at_ e e2 : Int} (h : R5 W g l at_ e) (hr : Rd wa W gr l2 e2) (hk : KeepBut W W' gr none) (hlt : gr < g) (hb : W'.os = W.os ∧ W'.tape = W.tape ∧ W'.output = W.output) : R5 W' g l at_ e := by
  obtain ⟨A, c, h1, h2, h3⟩ := h
  obtain ⟨A2, c2, b1, _⟩ := hr
  have hg := blk_lt h1
  have hg' : g < W'.heap.size := Nat.lt_of_lt_of_le hg hk.1
  refine ⟨A, c, hk.blk h1 (by omega) (by simp), by rw [trunc_size (Nat.le_of_lt hg')]; exact Nat.le_refl _, ?_⟩
  refine Kd.C_keep (0 : Int) (g := gr) h3 ⟨by rw [trunc_size (Nat.le_of_lt hg), trunc_size (Nat.le_of_lt hg')]; exact Nat.le_refl _, fun i hi hne _ => ?_⟩ ?_
  · rw [trunc_size (Nat.le_of_lt hg)] at hi
    rw [trunc_get (Nat.le_of_lt hg') hi, trunc_get (Nat.le_of_lt hg) hi]
    exact hk.2 i (by omega) hne (by simp)
  · intro ad hA hn he
    obtain ⟨ad2, e3, hx⟩ := Kd.at_int h3 0 (by omega) (by omega)
    rw [hA] at e3
    injection e3 with e3
    subst e3
    have hz : ad.add (0 : Int).toNat = ad := by simp [Addr.add]
    rw [hz] at hx
    have hb2 : (trunc W g).heap[ad.block]? = some (.cells #[.slice A2 l2.length c2, .int .i64 e2] 114 (0, 0)) := by rw [he, trunc_get (Nat.le_of_lt hg) hlt]; exact b1
    obtain ⟨bk, off, sp⟩ := ad
    simp only at hb2
    simp only [World.cell?, hb2] at hx
    split at hx
    · cases hx
    · rcases off with _ | _ | n
      · simp at hx
      · simp at hx
      · simp at hx
theorem ref05_Num.own {W : World} {g : Nat} {l : List Int} {at_ e : Int} (k : Nat) (top r at2 e2 : Int) (h : R5 W g l at_ e) (hf : tombolaref05_Reader_Num.f k l at_ e top = some (r, at2, e2)) :
    Calls Try.prog 60 #[.pointer (some ⟨g, 0, none⟩), .int .u64 top] W fun en W' => en = .returned (.int .u64 r) ∧ R5 W' g l at2 e2 ∧ Below (trunc W g).heap.size (trunc W g) W' ∧ KeepBut W W' g none :=
  (tombolaref05_Reader_Num.calls k g l at_ e top r at2 e2 (trunc W g) W h h.tb hf).mono fun en W' ⟨h1, h2, h3, h4⟩ => ⟨h1, R5.back (Nat.le_of_lt h.lt) h2 h3, h3, h4⟩
theorem ref05_Int.own {W : World} {g : Nat} {l : List Int} {at_ e : Int} (k : Nat) (top r at2 e2 : Int) (h : R5 W g l at_ e) (hf : tombolaref05_Reader_Int.f k l at_ e top = some (r, at2, e2)) :
    Calls Try.prog 62 #[.pointer (some ⟨g, 0, none⟩), .int .i64 top] W fun en W' => en = .returned (.int .i64 r) ∧ R5 W' g l at2 e2 ∧ Below (trunc W g).heap.size (trunc W g) W' ∧ KeepBut W W' g none :=
  (tombolaref05_Reader_Int.calls k g l at_ e top r at2 e2 (trunc W g) W h h.tb hf).mono fun en W' ⟨h1, h2, h3, h4⟩ => ⟨h1, R5.back (Nat.le_of_lt h.lt) h2 h3, h3, h4⟩
theorem ref05_Fail.own {W : World} {g : Nat} {l : List Int} {at_ e : Int} (e2 : Int) (h : R5 W g l at_ e) :
    Calls Try.prog 66 #[.pointer (some ⟨g, 0, none⟩), .int .i64 e2] W fun en W' => en = .returned (.tuple #[]) ∧ R5 W' g l at_ (if e = 0 then e2 else e) ∧ Below (trunc W g).heap.size (trunc W g) W' ∧ KeepBut W W' g none :=
  (tombolaref05_Reader_Fail.calls g l at_ e e2 at_ (if e = 0 then e2 else e) (trunc W g) W h h.tb (by unfold tombolaref05_Reader_Fail.f; split <;> rfl)).mono fun en W' ⟨h1, h2, h3, h4⟩ => ⟨h1, R5.back (Nat.le_of_lt h.lt) h2 h3, h3, h4⟩
end Go.Proofs.Ytogdooclldoomaa.F
