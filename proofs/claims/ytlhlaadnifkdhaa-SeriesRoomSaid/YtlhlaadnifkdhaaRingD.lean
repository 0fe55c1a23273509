/- A ring of samples: New. No law is proved here. -/
import Derived.Test.YtlhlaadnifkdhaaRingC
namespace Go.Proofs.Ytlhlaadnifkdhaa.Sr
open Go.RowKit Go.Proofs.YtlhlaadnifkdhaaW.PrintWords Go.Proofs.YtlhlaadnifkdhaaW.PrintLast Go.Proofs.YtlhlaadnifkdhaaW.PrintMore Go.Proofs.Ytlhlaadnifkdhaa.Q Go.Proofs.Ytlhlaadnifkdhaa.Own
set_option linter.unusedVariables false
set_option linter.unusedSimpArgs false
attribute [local go_sem ↓] Go.wp_at_zero Go.wp_at_succ

abbrev ring0 : Array Value := #[.int .i64 0, .int .i64 0, .int .i64 0, .int .i64 0, .int .i64 0, .int .i64 0, .int .i64 0, .int .i64 0, .int .i64 0, .int .i64 0, .int .i64 0, .int .i64 0, .int .i64 0, .int .i64 0, .int .i64 0, .int .i64 0, .int .i64 0, .int .i64 0, .int .i64 0, .int .i64 0, .int .i64 0, .int .i64 0, .int .i64 0, .int .i64 0, .int .i64 0, .int .i64 0, .int .i64 0, .int .i64 0, .int .i64 0, .int .i64 0, .int .i64 0, .int .i64 0, .int .i64 0, .int .i64 0, .int .i64 0, .int .i64 0, .int .i64 0, .int .i64 0, .int .i64 0, .int .i64 0, .int .i64 0, .int .i64 0, .int .i64 0, .int .i64 0, .int .i64 0, .int .i64 0, .int .i64 0, .int .i64 0, .int .i64 0, .int .i64 0, .int .i64 0, .int .i64 0, .int .i64 0, .int .i64 0, .int .i64 0, .int .i64 0, .int .i64 0, .int .i64 0, .int .i64 0, .int .i64 0, .int .i64 0, .int .i64 0, .int .i64 0, .int .i64 0, .int .i64 0, .int .i64 0, .bool true]
theorem ring0_is : RingIs ring0 0 [] := ⟨by kernel_rfl, by kernel_rfl, by kernel_rfl, by kernel_rfl, by decide, by decide, fun j hj => absurd hj (Nat.not_lt_zero _)⟩
set_option maxHeartbeats 1000000 in
set_option maxRecDepth 100000 in
theorem rnew_calls {B : Nat} {w : World} {Ts : List Th} (h : Has B w Ts) : Calls Try.prog 29 #[] w fun e w' => ∃ b, e = .returned (ptr b) ∧ Has B w' (ringT b [] :: Ts) ∧ Below B w w' := by
  have HA : Aside0 (Has B (w.alloc (.cells ring0 101)) (ringT w.heap.size [] :: Ts)) := ⟨ring_shut (h.box ring0 101) ring0_is⟩
  have HB : Aside0 (Below B w (w.alloc (.cells ring0 101))) := ⟨(Below.refl B w).alloc h.size _⟩
  have hu := Try.underlying101
  have hb : Try.prog.built 101 [(3, .bool true)] = some ring0 := by kernel_rfl
  clear h
  go_enter Try.func29, Try.ntmps29
  go_wp2_with fail
  go_ret
  exact ⟨_, rfl, HA.out, HB.out⟩
end Go.Proofs.Ytlhlaadnifkdhaa.Sr
