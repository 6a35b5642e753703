import Derived.Test.YtogdooclldoomaaWireText
import Derived.Test.YtogdooclldoomaaFWireA
namespace Go.Proofs.Ytogdooclldoomaa.F
open Go.RowKit Go.Proofs.YtogdooclldoomaaW.PrintWords Go.Proofs.YtogdooclldoomaaW.PrintLast Go.Proofs.YtogdooclldoomaaW.PrintMore
set_option linter.unusedSimpArgs false
set_option linter.unusedVariables false
/-! A new reader; nobody's. -/
set_option maxHeartbeats 4000000 in
set_option maxRecDepth 100000 in
theorem wire_NewReader.own (A : Option Addr) (c : Nat) (l : List Int) (w : World) (hr : Kd.C (Kd.int .u8) w A l.length l) (hc : l.length ≤ c) (hl : l.length ≤ 1099511627776) :
    Calls Try.prog 57 #[.slice A l.length c] w fun e w' => ∃ g w1, e = .returned (.pointer (some ⟨g, 0, none⟩)) ∧ Rd w1 w' g l 0 ∧ Below w.heap.size w w1 ∧ Below w1.heap.size w1 w' := by
  have hu := Try.underlying114
  have HR := Aside0.mk hr
  have HC := Aside0.mk hc
  have HL : Aside0 (slices_Clone_byte_byte.f l = some l) := ⟨if_pos hl⟩
  clear hr hc hl
  go_enter Try.func57, Try.ntmps57
  go_wp2_with (go_at_call 79; refine (slices_Clone_byte_byte.calls A c l l _ HR.out HC.out HL.out).mono ?_; rintro e w1 ⟨v, rfl, hR, hb⟩; have HB := Aside0.mk hb; obtain ⟨A1, c1, rfl, hc1, hC1⟩ := Kd.R_reads hR; have HV := Aside0.mk hC1; have HC1 := Aside0.mk hc1; clear hR hb hc1 hC1)
  go_ret
  exact ⟨_, w1, rfl, ⟨_, _, by simpa using heap_alloc_new _ _, Nat.le_refl _, HV.out, HC1.out⟩, HB.out, below_alloc (Below.refl _ _) _⟩
set_option maxHeartbeats 4000000 in
set_option maxRecDepth 100000 in
theorem wire_Reader_Err.nobody (w : World) : Calls Try.prog 68 #[.pointer none] w fun e w' => e = .returned (.int .i64 4) ∧ w' = w := by
  go_enter Try.func68, Try.ntmps68
  go_wp2
  go_ret
  all_goals exact ⟨rfl, rfl⟩
set_option maxHeartbeats 4000000 in
set_option maxRecDepth 100000 in
theorem wire_Reader_Left.nobody (w : World) : Calls Try.prog 67 #[.pointer none] w fun e w' => e = .returned (.int .i64 0) ∧ w' = w := by
  go_enter Try.func67, Try.ntmps67
  go_wp2
  go_ret
  all_goals exact ⟨rfl, rfl⟩
set_option maxHeartbeats 4000000 in
set_option maxRecDepth 100000 in
theorem wire_Reader_Fail.nobody (v : Value) (w : World) : Calls Try.prog 65 #[.pointer none, v] w fun e w' => e = .returned (.tuple #[]) ∧ w' = w := by
  go_enter Try.func65, Try.ntmps65
  go_wp2
  first | go_end0 | ((try simp only [Exit.inBlock, Exit.then]); refine bodyPost_ret (results_none rfl _ _ _) rfl ?_)
  all_goals exact ⟨rfl, rfl⟩
set_option maxHeartbeats 4000000 in
set_option maxRecDepth 100000 in
theorem wire_Reader_Num.nobody (n : Int) (w : World) : Calls Try.prog 59 #[.pointer none, .int .u64 n] w fun e w' => e = .returned (.int .u64 0) ∧ w' = w := by
  go_enter Try.func59, Try.ntmps59
  go_wp2_with (go_at_call 68; with_reducible refine (wire_Reader_Err.nobody _).mono ?_; rintro e w1 ⟨rfl, rfl⟩)
  go_ret
  all_goals exact ⟨rfl, rfl⟩
set_option maxHeartbeats 4000000 in
set_option maxRecDepth 100000 in
theorem wire_Reader_Int.nobody (n : Int) (w : World) : Calls Try.prog 61 #[.pointer none, .int .i64 n] w fun e w' => e = .returned (.int .i64 0) ∧ w' = w := by
  obtain ⟨m, hm⟩ : ∃ m, (if n < 0 then 0 else n) = m := ⟨_, rfl⟩
  go_enter Try.func61, Try.ntmps61
  go_wp2_with (go_at_call 59; with_reducible refine (wire_Reader_Num.nobody (IntKind.u64.wrap m) _).mono ?_; rintro e w1 ⟨rfl, rfl⟩)
  go_ret
  all_goals exact ⟨by rfl, rfl⟩
set_option maxHeartbeats 4000000 in
set_option maxRecDepth 100000 in
theorem wire_Reader_Text.nobody (n : Int) (w : World) : Calls Try.prog 63 #[.pointer none, .int .i64 n] w fun e w' => e = .returned (.string ByteArray.empty) ∧ w' = w := by
  go_enter Try.func63, Try.ntmps63
  go_wp2_with (go_at_call 68; with_reducible refine (wire_Reader_Err.nobody _).mono ?_; rintro e w1 ⟨rfl, rfl⟩)
  go_ret
  all_goals exact ⟨rfl, rfl⟩
end Go.Proofs.Ytogdooclldoomaa.F
