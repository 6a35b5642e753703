-- Cut for this claim by a program (wip/prune.py) out of the texts that its bench laid or wrote
import Derived.Test.YtmfacoccojenlaaDoorSlotsLi
import Derived.RegionIn
import Derived.BigRegionIn
namespace Go.Proofs.YtmfacoccojenlaaDoor.F
open Go.RowKit Go.Shelf Go.Proofs.YtmfacoccojenlaaDoorW.PrintWords Go.Proofs.YtmfacoccojenlaaDoorW.PrintLast Go.Proofs.YtmfacoccojenlaaDoorW.PrintMore
set_option linter.unusedSimpArgs false
set_option linter.unusedVariables false
open Go.Proofs.YtmfacoccojenlaaDoor.N (ofN Bits fz cnt seqI wordI idx)
attribute [local go_sem] Oper.semAt_some
def giveAt (l : List Bool) (x : Int) : List Bool := if (decide (0 ≤ x) && l.getD x.toNat false) = true then l.set x.toNat false else l
theorem give_any {base : Nat} {w : World} {g : Nat} {v : Value} {ws : List Nat} {l : List Bool} (x : Int) (h : Sl base w g v ws l) :
    Calls Tryd.prog 9 #[.pointer (some ⟨g, 0, none⟩), .int .i64 x] w fun e w' => (∃ r, e = .returned (.int .i64 r)) ∧ ∃ ws', Sl base w' g v ws' (giveAt l x) ∧ KeepBut w w' g v.ownBlock ∧ Below base w w' := by
  unfold giveAt
  have hb : base ≤ w.heap.size := Nat.le_trans h.2.1 (Nat.le_of_lt (blk_lt h.1))
  by_cases c : (decide (0 ≤ x) && l.getD x.toNat false) = true
  · rw [if_pos c]
    obtain ⟨c0, c1⟩ := Bool.and_eq_true_iff.1 c
    obtain ⟨p, rfl⟩ := Int.eq_ofNat_of_zero_le (of_decide_eq_true c0)
    rw [Int.toNat_natCast] at c1 ⊢
    exact (slots_Slots_Give.own p h c1).mono fun e w' ⟨he, h2⟩ => ⟨⟨0, he⟩, h2⟩
  · rw [if_neg c]
    exact (slots_Slots_Give.no x h (by simpa using c)).mono fun e w' ⟨he, hd⟩ => ⟨⟨7, he⟩, ws, h.below hd.below, KeepBut.of_below hd.below _ _, hd.below.mono hb⟩
def lAt (l : List Bool) : List Int → List Bool
  | [] => l
  | x :: _ => giveAt l x
theorem lAt_more (l : List Bool) (p : List Int) (x : Int) (h : p ≠ []) : lAt l (p ++ [x]) = lAt l p := by
  cases p with
  | nil => exact absurd rfl h
  | cons y p => rfl
theorem Sl.turn {base : Nat} {W W' : World} {g : Nat} {v : Value} {ws : List Nat} {l : List Bool} {row : Option Nat} (h : Sl base W g v ws l) (hg : W.grownBy W' row) (hr : ∀ r, row = some r → ∃ o : Obj, W.heap[r]? = some o ∧ o.isCells = false) : Sl base W' g v ws l := by
  refine ⟨blk_grown h.1 hg (fun e => ?_), h.2.1, Kd.R_grown2 h.2.2.1 rfl hg (fun k hk e => ?_), h.2.2.2⟩
  · obtain ⟨o, ho, hc⟩ := hr g e.symm
    rw [h.1] at ho
    cases ho
    cases hc
  · obtain ⟨o, ho, hc⟩ := hr k hk
    obtain ⟨cs, hcs⟩ := Kd.R_typed h.2.2.1 k e.symm
    rw [hcs] at ho
    cases ho
    cases hc
theorem boxed_turn {W W' : World} {B : Nat} {t : TypeId} {u : Value} {row : Option Nat} (h : Boxed W B t u) (hg : W.grownBy W' row) (hr : ∀ r, row = some r → ∃ o : Obj, W.heap[r]? = some o ∧ o.isCells = false) : Boxed W' B t u :=
  h.kept hg (fun e => by
    obtain ⟨o, ho, hc⟩ := hr B e.symm
    rw [show W.heap[B]? = _ from h] at ho
    cases ho
    cases hc)
def Chg (Bo : Nat) (W W' : World) : Prop := ∀ (i : Nat) (cells : Array Value) (t : TypeId), W.heap[i]? = some (.cells cells t (0, 0)) → t ≠ 3 → i ≠ Bo → W'.heap[i]? = some (.cells cells t (0, 0))
theorem chg_append {B₀ Bo k : Nat} {W W1 : World} {o : Obj} {v v' : Value} {xs : List Value} (hr : W.ownsRow B₀ 3 1 v k xs) (hg : (W.alloc o).grownBy W1 v.ownBlock) : Chg Bo W (W1.setCell ⟨Bo, 0, none⟩ v') := by
  intro i cells t hc ht hne
  have hlt := (Array.getElem?_eq_some_iff.1 hc).1
  have h1 : (W.alloc o).heap[i]? = some (.cells cells t (0, 0)) := by
    rw [(World.grownBy_alloc W o none).block i hlt (by simp)]; exact hc
  have h2 : W1.heap[i]? = some (.cells cells t (0, 0)) := by
    rw [hg.block i (by rw [World.size_alloc]; omega) (fun e => by
      obtain ⟨cs, h3⟩ := own_typed hr i e.symm
      rw [hc] at h3
      injection h3 with h3
      injection h3 with _ h3
      exact ht h3)]
    exact h1
  rw [((KeepBut.refl W1 Bo none).set_ 0 v').2 i (Array.getElem?_eq_some_iff.1 h2).1 hne (by simp)]
  exact h2
theorem Chg.boxed {Bo B : Nat} {W W' : World} {t : TypeId} {v : Value} (h : Chg Bo W W') (hb : Boxed W B t v) (ht : t ≠ 3) (hne : B ≠ Bo) : Boxed W' B t v := h B _ t hb ht hne
theorem Chg.sl {Bo base : Nat} {W W' : World} {g : Nat} {v u : Value} {ws : List Nat} {l : List Bool} (h : Chg Bo W W') (hb : Sl base W g v ws l) (hB : Boxed W Bo 22 u) : Sl base W' g v ws l := by
  refine ⟨h g _ _ hb.1 (by decide) (fun e => ?_), hb.2.1, ?_, hb.2.2.2⟩
  · subst e
    have := hb.1.symm.trans hB
    injection this with this
    injection this with _ this
    exact absurd this (by decide)
  · refine Kd.R_mono (Kd.R_step (Kd.R_bound hb.2.2.1) (fun k ho hlt => ?_)) (fun k hk => hk.1)
    obtain ⟨_, _, _, q, hq, cells, hc⟩ := ho
    have hq2 : q = 44 := by simpa [Kd.int, Kd.scalar, Kd.E] using hq
    subst hq2
    rw [hc]
    refine h k cells _ hc (by decide) (fun e => ?_)
    subst e
    have := hc.symm.trans hB
    injection this with this
    injection this with _ this
    exact absurd this (by decide)
theorem keep_noncells {B : Nat} {base : Nat} {W W' : World} {g : Nat} {v : Value} {ws : List Nat} {l : List Bool} (h : Sl base W g v ws l) (hk : KeepBut W W' g v.ownBlock) : KeepsFrom B W W' := by
  refine ⟨hk.1, fun k o _ ho hc => ?_⟩
  rw [hk.2 k (Array.getElem?_eq_some_iff.1 ho).1 (fun e => ?_) (fun e => ?_)]
  · exact ho
  · subst e; rw [h.1] at ho; cases ho; cases hc
  · obtain ⟨cs, hcs⟩ := Kd.R_typed h.2.2.1 k e.symm
    rw [hcs] at ho; cases ho; cases hc
theorem keep_box {base B : Nat} {W W' : World} {g : Nat} {v u : Value} {t : TypeId} {ws : List Nat} {l : List Bool} (h : Sl base W g v ws l) (hk : KeepBut W W' g v.ownBlock) (hb : Boxed W B t u) (h1 : t ≠ 43) (h2 : t ≠ 44) : Boxed W' B t u := by
  refine hk.blk hb (fun e => ?_) (fun e => ?_)
  · subst e
    have := (show W.heap[B]? = _ from hb).symm.trans h.1
    injection this with this
    injection this with _ this
    exact h1 this
  · obtain ⟨cs, hcs⟩ := Kd.R_typed h.2.2.1 B e.symm
    have := (show W.heap[B]? = _ from hb).symm.trans hcs
    injection this with this
    injection this with _ this
    exact h2 this
theorem keep_row {base B n : Nat} {W W' : World} {g : Nat} {v u : Value} {ws : List Nat} {l : List Bool} {xs : List Value} (h : Sl base W g v ws l) (hk : KeepBut W W' g v.ownBlock) (hr : W.ownsRow B 3 1 u n xs) : W'.ownsRow B 3 1 u n xs := by
  refine hk.own hr (fun e => ?_) ?_
  · obtain ⟨cs, hcs⟩ := own_typed hr g e
    rw [h.1] at hcs
    injection hcs with hcs
    injection hcs with _ hcs
    exact absurd hcs (by decide)
  · cases hu : u.ownBlock with
    | none => exact .inl rfl
    | some k =>
      refine .inr (fun e => ?_)
      obtain ⟨cs, hcs⟩ := own_typed hr k hu
      obtain ⟨cs2, hcs2⟩ := Kd.R_typed h.2.2.1 k e.symm
      rw [hcs] at hcs2
      injection hcs2 with hcs2
      injection hcs2 with _ hcs2
      exact absurd hcs2 (by decide)
theorem keep_kp {n₀ B₀ : Nat} {W W' : World} {g : Nat} {v : Value} {ws : List Nat} {l : List Bool} (h : Sl B₀ W g v ws l) (hk : KeepBut W W' g v.ownBlock) (hb : Below B₀ W W') (hv : ∀ k, v.ownBlock = some k → k < n₀) : Kp n₀ B₀ W W' := by
  refine ⟨fun i cells hi hc => ?_, hb⟩
  rw [hk.2 i (Array.getElem?_eq_some_iff.1 hc).1 (fun e => ?_) (fun e => ?_)]
  · exact hc
  · subst e
    rw [h.1] at hc
    injection hc with hc
    injection hc with _ hc
    exact absurd hc (by decide)
  · have := hv i e.symm
    omega
theorem kb_turn {w W W' : World} {g : Nat} {row r1 : Option Nat} (h : KeepBut w W g row) (hg : W.grownBy W' r1) (hr : ∀ k, r1 = some k → w.heap.size ≤ k) : KeepBut w W' g row :=
  ⟨Nat.le_trans h.1 hg.size, fun i hi hne hrow => (hg.block i (Nat.lt_of_lt_of_le hi h.1) (fun e => by have := hr i e.symm; omega)).trans (h.2 i hi hne hrow)⟩
theorem kb_below {w W W' : World} {g : Nat} {row : Option Nat} (h : KeepBut w W g row) (hb : Below w.heap.size W W') : KeepBut w W' g row :=
  ⟨Nat.le_trans h.1 hb.size, fun i hi hne hrow => (hb.block i hi).trans (h.2 i hi hne hrow)⟩
theorem ne_two {X : World} {va vb : Value} {N n : Nat} {xs : List Value} (h : ∀ k, va.ownBlock = some k → k < N) (hr : X.ownsRow N 3 1 vb n xs) : va.ownBlock = none ∨ va.ownBlock ≠ vb.ownBlock := by
  cases hvo : va.ownBlock with
  | none => exact .inl rfl
  | some k =>
    refine .inr (fun e => ?_)
    have h1 := h k hvo
    have h2 := own_base hr k e.symm
    omega
theorem kp_chg {n₀ B₀ Bo : Nat} {W W' : World} {u : Value} (h : Chg Bo W W') (hB : Boxed W Bo 22 u) (hb : Below B₀ W W') : Kp n₀ B₀ W W' := by
  refine ⟨fun i cells _ hc => h i cells _ hc (by decide) (fun e => ?_), hb⟩
  subst e
  have := (show W.heap[i]? = _ from hB).symm.trans hc
  injection this with this
  injection this with _ this
  exact absurd this (by decide)
set_option maxRecDepth 100000 in
set_option maxHeartbeats 4000000 in
theorem law_twice_in (n : Nat) (hn : 3 ≤ n) {base : Nat} {g : Nat} {v : Value} {ws : List Nat} {l : List Bool} (w : World) (hS : Sl base w g v ws l) (hb0 : 0 < base) (HT : Aside0 (Tab w)) :
    CallsIn Fence.wide n Tryd.prog 16 #[.pointer (some ⟨g, 0, none⟩)] w fun e W' => ∃ a b, e = .returned (.tuple #[a, b]) ∧ Kd.R (Kd.int .i64) 3 W' w.heap.size (fun _ => True) a (idx l) ∧ Kd.R (Kd.int .i64) 3 W' w.heap.size (fun _ => True) b (idx (lAt l (idx l))) ∧ Below base w W' ∧ KeepBut w W' g v.ownBlock := by
  have h1 : 1 ≤ n := by omega
  obtain ⟨i0, hi, hz0, hz1, hz2⟩ := info_parts infoI
  have hbw : base ≤ w.heap.size := Nat.le_trans hS.2.1 (Nat.le_of_lt (blk_lt hS.1))
  have hvl : ∀ k, v.ownBlock = some k → k < w.heap.size := Kd.R_lt hS.2.2.1
  have hix : (idx l).length ≤ 4096 := by
    have := hS.2.2.2.2
    unfold idx
    rw [List.length_map]
    exact Nat.le_trans (List.length_filter_le _ _) (by rw [List.length_range]; exact this)
  refine callsIn_of_wp_marks Tryd.func16 rfl trivial ?_ rfl
  simp only [Tryd.ntmps16, List.size_toArray, List.length_cons, List.length_nil, Nat.reduceAdd, Nat.reduceSub, Array.replicate_succ, Array.replicate_zero, List.push_toArray, List.append_toArray, List.nil_append, List.cons_append]
  gi_wp2_with (refine ⟨trivial, ?_⟩; gi_at_call 18; refine (slots_All_in (n - 1) _ _).mono ?_; rintro e w' ⟨rfl, rfl⟩)
  have b0 := Boxed.new w 24 (.pointer (some ⟨g, 0, none⟩))
  have b1 := Boxed.new (w.alloc (.cells #[.pointer (some ⟨g, 0, none⟩)] 24)) 22 (.slice none 0 0)
  have b2 := Boxed.new ((w.alloc (.cells #[.pointer (some ⟨g, 0, none⟩)] 24)).alloc (.cells #[.slice none 0 0] 22)) 22 (.slice none 0 0)
  have b3 := Boxed.new (((w.alloc (.cells #[.pointer (some ⟨g, 0, none⟩)] 24)).alloc (.cells #[.slice none 0 0] 22)).alloc (.cells #[.slice none 0 0] 22)) 24 (.pointer (some ⟨g, 0, none⟩))
  simp only [World.size_alloc] at b1 b2 b3
  have hB4 : Below w.heap.size w ((((w.alloc (.cells #[.pointer (some ⟨g, 0, none⟩)] 24)).alloc (.cells #[.slice none 0 0] 22)).alloc (.cells #[.slice none 0 0] 22)).alloc (.cells #[.pointer (some ⟨g, 0, none⟩)] 24)) := below_alloc (below_alloc (below_alloc (below_alloc (Below.refl _ w) _) _) _) _
  have hsz : ((((w.alloc (.cells #[.pointer (some ⟨g, 0, none⟩)] 24)).alloc (.cells #[.slice none 0 0] 22)).alloc (.cells #[.slice none 0 0] 22)).alloc (.cells #[.pointer (some ⟨g, 0, none⟩)] 24)).heap.size = w.heap.size + 4 := by simp
  have c0 := ((b0.alloc (.cells #[.slice none 0 0] 22)).alloc (.cells #[.slice none 0 0] 22)).alloc (.cells #[.pointer (some ⟨g, 0, none⟩)] 24)
  have c1 := (b1.alloc (.cells #[.slice none 0 0] 22)).alloc (.cells #[.pointer (some ⟨g, 0, none⟩)] 24)
  have c2 := b2.alloc (.cells #[.pointer (some ⟨g, 0, none⟩)] 24)
  have c3 := b3
  generalize ((((w.alloc (.cells #[.pointer (some ⟨g, 0, none⟩)] 24)).alloc (.cells #[.slice none 0 0] 22)).alloc (.cells #[.slice none 0 0] 22)).alloc (.cells #[.pointer (some ⟨g, 0, none⟩)] 24)) = W4 at hB4 hsz c0 c1 c2 c3 ⊢
  clear b0 b1 b2 b3
  have hT4 := Tab.later HT hB4
  have hS4 := hS.below hB4
  have hI4 : Its W4 (some ⟨g, 0, none⟩) (idx l) := .inr ⟨base, g, v, ws, l, rfl, hS4, (N.Bits.seq hS.2.2.2.1).symm⟩
  refine wpIn_rangeFunc_ownG rfl h1 (gf := 19) (lb := #[.pointer (some ⟨w.heap.size + 1 + 1 + 1, 0, none⟩)]) rfl trivial (enters_of Tryd.func19 (by kernel_rfl) rfl)
    (slots_stops (n - 1) (by omega) (w.heap.size + 1 + 1 + 1) w.heap.size base (some ⟨g, 0, none⟩) (idx l) W4 (by omega) (by omega) hb0 c3.cell hI4 hT4) (fun h k => h.trans k) (fun W l o o' hl h ho hw => Kp.putObj o' (by omega) h ho hw) (Below.refl _ _) (fun _ => rfl)
    (fun pre W => (∃ va, Boxed W (w.heap.size + 1) 22 va ∧ W.ownsRow (w.heap.size + 4) 3 1 va pre.length (pre.map (Value.int .i64)) ∧ True) ∧ ((Boxed W w.heap.size 24 (.pointer (some ⟨g, 0, none⟩)) ∧ Boxed W (w.heap.size + 1 + 1) 22 (.slice none 0 0) ∧ Boxed W (w.heap.size + 1 + 1 + 1) 24 (.pointer (some ⟨g, 0, none⟩)) ∧ KeepBut w W g v.ownBlock ∧ ∃ ws', Sl base W g v ws' (lAt l pre)) ∧ Below base W4 W))
    (fun _ _ _ => False)
    (OwnFrom.and (Own.from (holdsRow_own (w.heap.size + 4) (w.heap.size + 1) 22 3 1 (fun pre : List Int => pre.length) (fun pre => pre.map (Value.int .i64)) (fun _ _ => True)) _) (OwnFrom.and (fun s A B row hs hg hr => by
      obtain ⟨h1, h2, h3, hkb, ws', h4⟩ := hs
      have hr' := fun r e => (hr r e).2
      exact ⟨boxed_turn h1 hg hr', boxed_turn h2 hg hr', boxed_turn h3 hg hr', kb_turn hkb hg (fun k e => by have := (hr k e).1; omega), ws', h4.turn hg hr'⟩) (ownFrom_below (by omega) (by omega))))
    (fun _ _ _ _ _ hs _ _ => hs)
    ⟨⟨_, c1, World.ownsRow_nil _ _ _ _, trivial⟩, ⟨c0, c2, c3, KeepBut.of_below hB4 _ _, ws, hS4⟩, Below.refl _ _⟩
    (fun x => { tmps := #[.pointer (some ⟨g, 0, none⟩), .pointer (some ⟨w.heap.size, 0, none⟩), .slice none 0 0, .slice none 0 0, .pointer (some ⟨w.heap.size + 1, 0, none⟩), .pointer (some ⟨w.heap.size + 1 + 1, 0, none⟩), .func (.func 19) #[] #[.pointer (some ⟨w.heap.size + 1 + 1 + 1, 0, none⟩)], .int .i64 x, undef, .pointer (some ⟨g, 0, none⟩), .func (.func 19) #[] #[.pointer (some ⟨w.heap.size + 1 + 1 + 1, 0, none⟩)], .func (.func 19) #[] #[.pointer (some ⟨w.heap.size + 1 + 1 + 1, 0, none⟩)], .int .i64 x, undef, undef, undef, undef, undef, undef, undef, undef, undef, undef, undef, undef, undef, undef, undef, undef, undef, undef, undef, undef, undef, undef, undef, undef], defers := [] }) ?assign ?body ?done ?stop
  case assign =>
    intro l x W K hK
    gi_wp2
    exact hK
  case body =>
    rintro lp pre x W ⟨⟨va, hva, hrow, _⟩, ⟨k0, k2, k3, hkb, ws', hs⟩, hB⟩ hlt
    obtain ⟨Av, cv, rfl⟩ := own_sl hrow
    have hsz2 : w.heap.size + 4 ≤ W.heap.size := by have := hB.size; omega
    have d1 : decide (4096 < ((pre.length : Int) + 1)) = false := decide_eq_false (by omega)
    have d2 : decide (4096 < pre.length + 1) = false := decide_eq_false (by omega)
    have hc := hva.cell
    have hc0 := k0.cell
    by_cases he : pre = []
    · have z1 : ((pre.length : Int) == 0) = true := by rw [he]; rfl
      have HS : Aside0 (Sl base W g v ws' l) := ⟨by rw [he] at hs; exact hs⟩
      have HE : Aside0 (lAt l (pre ++ [x]) = giveAt l x) := ⟨by rw [he]; rfl⟩
      clear he hs
      gi_wp2_with (first
        | (refine ⟨trivial, fun h => (by cases h), ?_⟩; gi_at_call 9; refine (CallsIn.inRound lp (callsIn_wide.2 (give_any x HS.out))).mono ?_; rintro e W1 ⟨⟨r, rfl⟩, ws1, hs1, hkp, hb1⟩; have hva1 := keep_box HS.out hkp hva (by decide) (by decide); have k01 := keep_box HS.out hkp k0 (by decide) (by decide); have k21 := keep_box HS.out hkp k2 (by decide) (by decide); have k31 := keep_box HS.out hkp k3 (by decide) (by decide); have hrow1 := keep_row HS.out hkp hrow; have HKP := Aside0.mk (keep_kp (n₀ := w.heap.size) HS.out hkp hb1 hvl); have HKB := Aside0.mk (hkb.trans hkp (.inl rfl)); have HKN := Aside0.mk (keep_noncells (B := W4.heap.size) HS.out hkp); have hsz3 : w.heap.size + 4 ≤ W1.heap.size := Nat.le_trans hsz2 hkp.1; have hcx := hva1.cell)
        | (gi_at_builtin; refine wpListIn_append_own _ rfl _ _ 22 rfl (w.heap.size + 4) 3 i0 (.int .i64 0) 1 8 Tryd.underlying22 hi hz0 hz1 hz2 rfl (by decide) _ _ _ rfl (hrow1.alloc _) ⟨W1.heap.size, 0, none⟩ 1 1 [.int .i64 x] rfl rfl (cell_one_new _ _ _) (by simp [Value.oneCell']) (by simp only [maxLen]; omega) (by omega) (by simp; omega) ?_; intro v' w1 hown' hgrow _; obtain ⟨g', cap', rfl⟩ := ownsRow_succ hown'; obtain ⟨hv1, hv2, _, hk2, hb2⟩ := hva1.appended (n₀ := w.heap.size) (by decide) (own_less hrow1 (by omega)) (by omega) (by omega) (own_less hown' (by omega)) hgrow; have hr2 := hown'.kept (grownBy_setCell' w1 (w.heap.size + 1) (.slice (some ⟨g', 0, none⟩) (pre.length + 1) cap')) (.inr (hv1.not_row (by decide) hown').symm); have hch := chg_append (Bo := w.heap.size + 1) (v' := .slice (some ⟨g', 0, none⟩) (pre.length + 1) cap') hrow1 hgrow; have hc1 := hv1.cell; have hf1 := hv1.frozen; have hc9 := hv2.cell))
      have hbb := hb2.mono hbw
      exact ⟨HKN.out.trans (hk2.from _), HKP.out.trans (kp_chg hch hva1 hbb), ⟨⟨_, hv2, by simpa using hr2, trivial⟩, ⟨hch.boxed k01 (by decide) (by omega), hch.boxed k21 (by decide) (by omega), hch.boxed k31 (by decide) (by omega), kb_below (HKB.out) hb2, ws1, by rw [HE.out]; exact hch.sl hs1 hva1⟩, (hB.trans hb1).trans hbb⟩⟩
    · have z1 : ((pre.length : Int) == 0) = false := beq_eq_false_iff_ne.mpr (fun e => he (List.eq_nil_of_length_eq_zero (by omega)))
      gi_wp2_with (gi_at_builtin; refine wpListIn_append_own _ rfl _ _ 22 rfl (w.heap.size + 4) 3 i0 (.int .i64 0) 1 8 Tryd.underlying22 hi hz0 hz1 hz2 rfl (by decide) _ _ _ rfl (hrow.alloc _) ⟨W.heap.size, 0, none⟩ 1 1 [.int .i64 x] rfl rfl (cell_one_new _ _ _) (by simp [Value.oneCell']) (by simp only [maxLen]; omega) (by omega) (by simp; omega) ?_; intro v' w1 hown' hgrow _; obtain ⟨g', cap', rfl⟩ := ownsRow_succ hown'; obtain ⟨hv1, hv2, _, hk2, hb2⟩ := hva.appended (n₀ := w.heap.size) (by decide) (own_less hrow (by omega)) (by omega) (by omega) (own_less hown' (by omega)) hgrow; have hr2 := hown'.kept (grownBy_setCell' w1 (w.heap.size + 1) (.slice (some ⟨g', 0, none⟩) (pre.length + 1) cap')) (.inr (hv1.not_row (by decide) hown').symm); have hch := chg_append (Bo := w.heap.size + 1) (v' := .slice (some ⟨g', 0, none⟩) (pre.length + 1) cap') hrow hgrow; have hc1 := hv1.cell; have hf1 := hv1.frozen; have hc9 := hv2.cell)
      have hbb := hb2.mono hbw
      exact ⟨hk2.from _, kp_chg hch hva hbb, ⟨⟨_, hv2, by simpa using hr2, trivial⟩, ⟨hch.boxed k0 (by decide) (by omega), hch.boxed k2 (by decide) (by omega), hch.boxed k3 (by decide) (by omega), kb_below hkb hb2, ws', by rw [lAt_more _ _ _ he]; exact hch.sl hs hva⟩, hB.trans hbb⟩⟩
  case done =>
    rintro D ys W hD rfl ⟨⟨va, hva, hrow, _⟩, ⟨k0, k2, k3, hkb, ws', hs⟩, hB⟩ hK
    gi_wp2
    have hsz5 : w.heap.size + 4 ≤ W.heap.size := by have := hB.size; omega
    have hT5 : Aside0 (Tab W) := ⟨Tab.later2 hT4.out hb0 hB⟩
    have hDl : D < W.heap.size := (Array.getElem?_eq_some_iff.1 hK).1
    have hval : ∀ k, va.ownBlock = some k → k < W.heap.size := fun k hk => own_lt hrow k hk
    have hix2 : (idx (lAt l (idx l))).length ≤ 4096 := by
      have := hs.2.2.2.2
      unfold idx
      rw [List.length_map]
      exact Nat.le_trans (List.length_filter_le _ _) (by rw [List.length_range]; exact this)
    have hI5 : Its W (some ⟨g, 0, none⟩) (idx (lAt l (idx l))) := .inr ⟨base, g, v, ws', _, rfl, hs, (N.Bits.seq hs.2.2.2.1).symm⟩
    refine wpIn_rangeFunc_ownG rfl h1 (gf := 19) (lb := #[.pointer (some ⟨w.heap.size + 1 + 1 + 1, 0, none⟩)]) rfl trivial (enters_of Tryd.func19 (by kernel_rfl) rfl)
      (slots_stops (n - 1) (by omega) (w.heap.size + 1 + 1 + 1) w.heap.size base (some ⟨g, 0, none⟩) (idx (lAt l (idx l))) W k3.lt (by omega) hb0 k3.cell hI5 hT5) (fun h k => h.trans k) (fun W l o o' hl h ho hw => Kp.putObj o' (by omega) h ho hw) (Below.refl _ _) (fun _ => rfl)
      (fun pre X => (∃ vb, Boxed X (w.heap.size + 1 + 1) 22 vb ∧ X.ownsRow W.heap.size 3 1 vb pre.length (pre.map (Value.int .i64)) ∧ True) ∧ ((Boxed X (w.heap.size + 1) 22 va ∧ X.ownsRow (w.heap.size + 4) 3 1 va (idx l).length ((idx l).map (Value.int .i64)) ∧ X.heap[D]? = some (.deferred (some []))) ∧ Below w.heap.size W X))
      (fun _ _ _ => False)
      (OwnFrom.and (Own.from (holdsRow_own W.heap.size (w.heap.size + 1 + 1) 22 3 1 (fun pre : List Int => pre.length) (fun pre => pre.map (Value.int .i64)) (fun _ _ => True)) _) (OwnFrom.and (fun s A B row hs hg hr => by
        obtain ⟨h1, h2, h3⟩ := hs
        have hr' := fun r e => (hr r e).2
        refine ⟨boxed_turn h1 hg hr', h2.kept hg ?_, (hg.block D (Array.getElem?_eq_some_iff.1 h3).1 (fun e => by have := (hr D e.symm).1; omega)).trans h3⟩
        cases hvo : va.ownBlock with
        | none => exact .inl rfl
        | some k =>
          refine .inr (fun e => ?_)
          have := (hr k e.symm).1
          have := hval k hvo
          omega) (ownFrom_below (by omega) (by omega))))
      (fun _ _ _ _ _ hs _ _ => hs)
      ⟨⟨_, k2, World.ownsRow_nil _ _ _ _, trivial⟩, ⟨hva, hrow, hK⟩, Below.refl _ _⟩
      (fun x => { tmps := #[.pointer (some ⟨g, 0, none⟩), .pointer (some ⟨w.heap.size, 0, none⟩), .slice none 0 0, .slice none 0 0, .pointer (some ⟨w.heap.size + 1, 0, none⟩), .pointer (some ⟨w.heap.size + 1 + 1, 0, none⟩), .func (.func 19) #[] #[.pointer (some ⟨w.heap.size + 1 + 1 + 1, 0, none⟩)], undef, .int .i64 x, .pointer (some ⟨g, 0, none⟩), .func (.func 19) #[] #[.pointer (some ⟨w.heap.size + 1 + 1 + 1, 0, none⟩)], .func (.func 19) #[] #[.pointer (some ⟨w.heap.size + 1 + 1 + 1, 0, none⟩)], undef, undef, undef, undef, undef, undef, undef, undef, undef, undef, undef, undef, undef, undef, .func (.func 19) #[] #[.pointer (some ⟨w.heap.size + 1 + 1 + 1, 0, none⟩)], .int .i64 x, undef, undef, undef, undef, undef, undef, undef, undef, undef], defers := [] }) ?assign2 ?body2 ?done2 ?stop2
    case assign2 =>
      intro l x W K hK
      gi_wp2
      exact hK
    case body2 =>
      rintro lp pre x X ⟨⟨vb, hvb, hrb, _⟩, ⟨hba, hra, hD9⟩, hB9⟩ hlt
      obtain ⟨Av, cv, rfl⟩ := own_sl hrb
      have hszX : W.heap.size ≤ X.heap.size := hB9.size
      have d1 : decide (4096 < ((pre.length : Int) + 1)) = false := decide_eq_false (by omega)
      have d2 : decide (4096 < pre.length + 1) = false := decide_eq_false (by omega)
      have hc := hvb.cell
      gi_wp2_with (gi_at_builtin; refine wpListIn_append_own _ rfl _ _ 22 rfl W.heap.size 3 i0 (.int .i64 0) 1 8 Tryd.underlying22 hi hz0 hz1 hz2 rfl (by decide) _ _ _ rfl (hrb.alloc _) ⟨X.heap.size, 0, none⟩ 1 1 [.int .i64 x] rfl rfl (cell_one_new _ _ _) (by simp [Value.oneCell']) (by simp only [maxLen]; omega) (by omega) (by simp; omega) ?_; intro v' w1 hown' hgrow _; obtain ⟨g', cap', rfl⟩ := ownsRow_succ hown'; obtain ⟨hv1, hv2, _, hk2, hb2⟩ := hvb.appended (n₀ := w.heap.size) (by decide) (own_less hrb (by omega)) (by omega) (by omega) (own_less hown' (by omega)) hgrow; have hr2 := hown'.kept (grownBy_setCell' w1 (w.heap.size + 1 + 1) (.slice (some ⟨g', 0, none⟩) (pre.length + 1) cap')) (.inr (hv1.not_row (by decide) hown').symm); have hch := chg_append (Bo := w.heap.size + 1 + 1) (v' := .slice (some ⟨g', 0, none⟩) (pre.length + 1) cap') hrb hgrow; have hra2 := own_setCell ((hra.alloc (.cells #[.int .i64 x] 3)).kept hgrow (ne_two hval hrb)) (p := ⟨w.heap.size + 1 + 1, 0, none⟩) (hv1.not_row (by decide) ((hra.alloc (.cells #[.int .i64 x] 3)).kept hgrow (ne_two hval hrb))) (.slice (some ⟨g', 0, none⟩) (pre.length + 1) cap'); have hc1 := hv1.cell; have hf1 := hv1.frozen; have hc9 := hv2.cell)
      have hbb := hb2.mono hbw
      exact ⟨hk2.from _, kp_chg hch hvb hbb, ⟨⟨_, hv2, by simpa using hr2, trivial⟩, ⟨((hba.alloc _).kept hgrow (fun e => by have := own_base hrb _ e.symm; omega)).kept (grownBy_setCell' w1 (w.heap.size + 1 + 1) _) (fun e => by injection e with e; omega), hra2, hk2.same D _ hD9 rfl⟩, hB9.trans hb2⟩⟩
    case done2 =>
      rintro D2 zs X hD2 rfl ⟨⟨vb, hvb, hrb, _⟩, ⟨hba, hra, hD9⟩, hB9⟩ hK2
      obtain ⟨Av, cv, rfl⟩ := own_sl hrb
      obtain ⟨Aa, ca, rfl⟩ := own_sl hra
      have hca := hba.cell
      have hcb := hvb.cell
      gi_wp2
      gi_region
      all_goals gi_wp2
      have hKd : X.drew.heap[D2]? = some (.deferred (some [])) := hK2
      refine ⟨by simp, .inl ⟨_, _, rfl, run_takeDeferred hKd, ?_⟩⟩
      have hDD : D ≠ D2 := by omega
      have hKe : (X.drew.putObj D2 (Obj.deferred none)).heap[D]? = some (.deferred (some [])) := by rw [World.putObj_heap_other hDD]; exact hD9
      refine ⟨by simp, .inl ⟨_, _, rfl, run_takeDeferred hKe, ?_⟩⟩
      have ra := own_less (ownsRow_putObj (ownsRow_putObj (o' := Obj.deferred none) (show X.drew.ownsRow _ _ _ _ _ _ from hra) hKd rfl) (Obj.deferred none) hKe rfl) (show w.heap.size ≤ w.heap.size + 4 by omega)
      have rb := own_less (ownsRow_putObj (ownsRow_putObj (o' := Obj.deferred none) (show X.drew.ownsRow _ _ _ _ _ _ from hrb) hKd rfl) (Obj.deferred none) hKe rfl) (show w.heap.size ≤ W.heap.size by omega)
      have hb1 : Below w.heap.size X (X.drew.putObj D2 (Obj.deferred none)) := (below_drew (Below.refl w.heap.size X)).trans ((Below.refl w.heap.size X.drew).grown (grownBy_putObj' _ _ _) (by have := hB9.size; show w.heap.size ≤ X.heap.size; omega) (fun k e => by cases e; omega))
      have hb2 : Below w.heap.size X ((X.drew.putObj D2 (Obj.deferred none)).putObj D (Obj.deferred none)) := hb1.trans ((Below.refl w.heap.size _).grown (grownBy_putObj' _ _ _) (by have := hB9.size; have := hb1.size; omega) (fun k e => by cases e; omega))
      exact ⟨_, results_tmp2 rfl _ _ _, .slice Aa (idx l).length ca, .slice Av (idx (lAt l (idx l))).length cv, rfl, Kd.R_of_own (h1 := fun _ => rfl) ra (fun _ _ => trivial), Kd.R_of_own (h1 := fun _ => rfl) rb (fun _ _ => trivial), (hB4.mono hbw).trans (hB.trans ((hB9.trans hb2).mono hbw)), kb_below hkb (hB9.trans hb2)⟩
    case stop2 =>
      rintro D2 c pre W _ _ h _
      exact h.elim
  case stop =>
    rintro D c pre W _ _ h _
    exact h.elim
theorem law_twice {base : Nat} {g : Nat} {v : Value} {ws : List Nat} {l : List Bool} (w : World) (hS : Sl base w g v ws l) (hb0 : 0 < base) (HT : Aside0 (Tab w)) :
    Calls Tryd.prog 16 #[.pointer (some ⟨g, 0, none⟩)] w fun e W' => ∃ a b, e = .returned (.tuple #[a, b]) ∧ Kd.R (Kd.int .i64) 3 W' w.heap.size (fun _ => True) a (idx l) ∧ Kd.R (Kd.int .i64) 3 W' w.heap.size (fun _ => True) b (idx (lAt l (idx l))) ∧ Below base w W' ∧ KeepBut w W' g v.ownBlock :=
  callsIn_wide.1 (law_twice_in 3 (by decide) w hS hb0 HT)
end Go.Proofs.YtmfacoccojenlaaDoor.F
