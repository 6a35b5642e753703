import Derived.Test.YtjphoempoinedaaFWordsA
import Derived.Test.YtjphoempoinedaaFSlicesA
namespace Go.Proofs.Ytjphoempoinedaa.F
open Go.RowKit Go.Proofs.YtjphoempoinedaaW.PrintWords Go.Proofs.YtjphoempoinedaaW.PrintLast Go.Proofs.YtjphoempoinedaaW.PrintMore
set_option linter.unusedSimpArgs false
set_option linter.unusedVariables false
set_option maxHeartbeats 4000000 in
set_option maxRecDepth 100000 in
/-- A new source, as the contracts of its methods have it. -/
theorem words_New.state (A : Option Addr) (c : Nat) (l : List Int) (w : World) (hr : Kd.C (Kd.int .u64) w A l.length l) (hc : l.length ≤ c) (hl : l.length ≤ 1099511627776) :
    Calls Try.prog 20 #[.slice A l.length c] w fun e w' => ∃ g w0, e = .returned (.pointer (some ⟨g, 0, none⟩)) ∧ IsS103 w0 w' g l 0 ∧ Below w.heap.size w w0 ∧ Below w0.heap.size w0 w' := by
  have hu := Try.underlying103
  have HR := Aside0.mk hr
  have HC := Aside0.mk hc
  have HL : Aside0 (slices_Clone_uint64_uint64.f l = some l) := ⟨if_pos hl⟩
  clear hr hc hl
  go_enter Try.func20, Try.ntmps20
  go_wp2_with (go_at_call 57; refine (slices_Clone_uint64_uint64.calls A c l l _ HR.out HC.out HL.out).mono ?_; rintro e w1 ⟨v, rfl, hR, hb⟩; have HB := Aside0.mk hb; obtain ⟨A1, c1, rfl, hc1, hC1⟩ := Kd.R_reads hR; have HV := Aside0.mk hC1; clear hR hb hc1 hC1)
  go_ret
  exact ⟨_, w1, rfl, IsS103.new w1 w1 _ _ _ _ (Below.refl _ _) HV.out, HB.out, below_alloc (Below.refl _ _) _⟩
end Go.Proofs.Ytjphoempoinedaa.F
