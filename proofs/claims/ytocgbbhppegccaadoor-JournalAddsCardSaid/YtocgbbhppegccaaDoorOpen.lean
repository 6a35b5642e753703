-- Cut for this claim by a program (wip/prune.py) out of the texts that its bench laid or wrote
import Derived.Test.YtocgbbhppegccaaDoorWWords
import Derived.Deep.Slices
import Derived.Carry
namespace Go.Proofs.YtocgbbhppegccaaDoor.Open
open Go Go.RowKit Go.ChangeShapes Go.WideShapes Go.Deep Go.Proofs.YtocgbbhppegccaaDoorW.PrintWords
set_option linter.unusedSimpArgs false
set_option linter.unusedVariables false
def Opens {α : Type} (P : Program) (d : Kd α) (t : TypeId) (wf : α → Prop) : Prop :=
  ∀ {H : Type} (enc : TypeId × Value → H) (w : World) (base : Nat) (spare : Nat → Bool) (held : Bool) (fuel : Nat) (cs : List Value) (x : DataW H × List MemPlace),
    DataW.trod enc P w base spare held fuel t cs = some x → ∃ a, d.K w a cs ∧ wf a
theorem Opens.mono {α : Type} {P : Program} {d : Kd α} {t : TypeId} {wf wf' : α → Prop} (h : Opens P d t wf) (hw : ∀ a, wf a → wf' a) : Opens P d t wf' :=
  fun enc w base spare held fuel cs x hx => let ⟨a, k, q⟩ := h enc w base spare held fuel cs x hx; ⟨a, k, hw a q⟩
theorem opens_int {P : Program} {t : TypeId} {k : IntKind} (ht : P.underlying t = some (.int k)) : Opens P (Kd.int k) t (fun n => (Lit.int k n).wf = true) := by
  intro H enc w base spare held fuel cs x h
  obtain ⟨n, rfl, _, hw⟩ := DataW.trod_int ht h
  exact ⟨n, rfl, hw⟩
theorem opens_slice {α : Type} (z : α) {P : Program} {t e : TypeId} {d : Kd α} {wf : α → Prop} (ht : P.underlying t = some (.slice e)) (hc : P.cellsOf e = d.sz) (hd : Opens P d e wf) :
    Opens P (Kd.slice e d) t (fun xs => (∀ x, x ∈ xs → wf x) ∧ xs.length ≤ 9223372036854775807) := by
  haveI : Inhabited α := ⟨z⟩
  intro H enc w base spare held fuel cs x h
  rcases open_slice ht h with ⟨rfl, _⟩ | ⟨a, len, cap, m, n, D, Pl, rfl, hb, hl, hm, hmm, _, hx⟩
  · exact ⟨[], ⟨none, 0, rfl, Nat.le_refl _, ⟨rfl, Nat.zero_le _, fun h => absurd h (Nat.lt_irrefl _)⟩⟩, ⟨fun _ h => absurd h List.not_mem_nil, Nat.zero_le _⟩⟩
  · have hlm : len ≤ m := by rw [hmm]; split <;> omega
    have hmax : cap ≤ 9223372036854775807 := hm
    obtain ⟨f, hf⟩ := choose_lt (α := α) (n := len) (p := fun i y => ∃ c, w.cells? base (a.add (i * P.cellsOf e)) (P.cellsOf e) = some c ∧ d.K w y c ∧ wf y) (fun i hi => by
      obtain ⟨c, h1, h2⟩ := hx i (by omega)
      obtain ⟨y, k, q⟩ := hd enc w base spare held n c _ h2
      exact ⟨y, c, h1, k, q⟩)
    have hlen : ((List.range len).map f).length = len := by simp
    refine ⟨(List.range len).map f, ⟨some a, cap, by rw [hlen], by rw [hlen]; exact hl, ?_⟩, ?_, by rw [hlen]; omega⟩
    · rw [hlen]
      refine ⟨hlen, by omega, fun hpos => ⟨a, rfl, fun j p hj => ?_⟩⟩
      have hjl : j < len := by
        rcases Nat.lt_or_ge j len with h | h
        · exact h
        · rw [List.getElem?_eq_none (by simpa using h)] at hj; cases hj
      have hp : f j = p := by
        rw [List.getElem?_map, List.getElem?_range hjl] at hj
        exact Option.some.inj hj
      obtain ⟨c, h1, k, _⟩ := hf j hjl
      rw [hp] at k
      obtain ⟨_, hcl, hcell⟩ := World.cells?_some h1
      refine ⟨c, by rw [hcl, hc], k, fun i u hu => ?_⟩
      have hi : i < c.length := by
        rcases Nat.lt_or_ge i c.length with h | h
        · exact h
        · rw [List.getElem?_eq_none h] at hu; cases hu
      rw [← Go.Deep.add_add, ← hc, hcell i (by omega)]
      exact hu
    · intro y hy
      obtain ⟨j, hj, rfl⟩ := List.mem_map.1 hy
      obtain ⟨c, _, _, q⟩ := hf j (List.mem_range.1 hj)
      exact q
def OpensAt {α : Type} (P : Program) (d : Kd α) (fs : List Field) (off : Nat) (wf : α → Prop) : Prop :=
  ∀ {H : Type} (enc : TypeId × Value → H) (w : World) (base : Nat) (spare : Nat → Bool) (held : Bool) (n : Nat) (cs : List Value),
    (∀ f, f ∈ fs → ∃ y, DataW.trod enc P w base spare held n f.type ((cs.drop f.offset).take (P.cellsOf f.type)) = some y) → off + d.sz ≤ cs.length → ∃ a, d.K w a ((cs.drop off).take d.sz) ∧ wf a
theorem opens_last {α : Type} {P : Program} {d : Kd α} {f : Field} {off : Nat} {wf : α → Prop} (ho : f.offset = off) (hc : P.cellsOf f.type = d.sz) (hd : Opens P d f.type wf) : OpensAt P d [f] off wf := by
  intro H enc w base spare held n cs h hl
  obtain ⟨y, hy⟩ := h f (List.mem_singleton.2 rfl)
  rw [ho, hc] at hy
  exact hd enc w base spare held n _ _ hy
theorem opens_cons {α β : Type} {P : Program} {d : Kd α} {e : Kd β} {f : Field} {fs : List Field} {off : Nat} {wf : α → Prop} {wf' : β → Prop} (ho : f.offset = off) (hc : P.cellsOf f.type = d.sz) (hd : Opens P d f.type wf)
    (he : OpensAt P e fs (off + d.sz) wf') : OpensAt P (Kd.pair d e) (f :: fs) off (fun x => wf x.1 ∧ wf' x.2) := by
  intro H enc w base spare held n cs h hl
  have hl' : off + (d.sz + e.sz) ≤ cs.length := hl
  obtain ⟨a, ka, qa⟩ := opens_last ho hc hd enc w base spare held n cs (fun g hg => h g (by rw [List.mem_singleton.1 hg]; exact List.mem_cons_self)) (by omega)
  obtain ⟨b, kb, qb⟩ := he enc w base spare held n cs (fun g hg => h g (List.mem_cons_of_mem _ hg)) (by omega)
  refine ⟨(a, b), ⟨_, _, ?_, ka, kb⟩, qa, qb⟩
  show (cs.drop off).take (d.sz + e.sz) = _
  rw [List.take_add, List.drop_drop]
theorem opens_struct {α β : Type} {P : Program} {t : TypeId} {fs : Array Field} {d : Kd α} {wf : α → Prop} (f : β → α) (g : α → β) (hfg : ∀ a, f (g a) = a) (ht : P.underlying t = some (.struct fs)) (hc : P.cellsOf t = d.sz)
    (hd : OpensAt P d fs.toList 0 wf) : Opens P (Kd.iso d f) t (fun b => wf (f b)) := by
  intro H enc w base spare held fuel cs x h
  obtain ⟨xs, n, _, _, hl, hlen, hf⟩ := DataW.trod_struct ht h
  obtain ⟨a, k, q⟩ := hd enc w base spare held n cs (fun f0 hf0 => by
    obtain ⟨i, hi, he⟩ := List.getElem_of_mem hf0
    have hi' : i < fs.size := by simpa using hi
    have h1 := hf i f0 (by rw [Array.getElem?_eq_getElem hi']; simp at he; rw [he])
    have hxi : i < xs.length := by omega
    rw [List.getElem?_eq_getElem hxi] at h1
    exact ⟨_, h1⟩) (by rw [hl, hc]; omega)
  rw [List.drop_zero, ← hc, ← hl, List.take_length] at k
  exact ⟨g a, by show d.K w (f (g a)) cs; rw [hfg]; exact k, by show wf (f (g a)); rw [hfg]; exact q⟩
theorem opened {α H : Type} {enc : TypeId × Value → H} {P : Program} {d : Kd α} {t : TypeId} {wf : α → Prop} {w : World} {base : Nat} {spare : Nat → Bool} {held : Bool} {v : Value} {dt : DataW H} {ps : List MemPlace} (hO : Opens P d t wf)
    (h : DataW.Trod enc P w base spare held t v dt ps) : ∃ a, d.K w a v.cells.toList ∧ wf a := by
  obtain ⟨fuel, hf⟩ := h
  exact hO enc w base spare held fuel _ _ hf
theorem okWide_agg {P : Program} {w : World} {r : Reach} {b0 : Nat} {t : TypeId} {v : Value} {fs : Array Field} {l : List Value} (hs : P.underlying t = some (.struct fs)) (hv : Value.okWide P w r b0 t v) (hl : v.cells.toList = l) : v = .agg l.toArray := by
  obtain ⟨cs, rfl, _⟩ := okWide_struct hs hv
  rw [← hl]
  simp [Value.cells]
end Go.Proofs.YtocgbbhppegccaaDoor.Open
