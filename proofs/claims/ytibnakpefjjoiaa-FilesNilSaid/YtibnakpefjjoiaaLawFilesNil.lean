/- The law FilesNil holds of the program for every input that the given row speaks of: proved out of its pure statement (the text PureFilesNil) and of the walks of the functions that it calls. -/
import Derived.Test.YtibnakpefjjoiaaRows
import Derived.Test.YtibnakpefjjoiaaOpens
import Derived.Test.YtibnakpefjjoiaaLawNil
import Derived.WalkKit
import Derived.ProofKit
import Derived.OpenShut
import Derived.ShutString
import Derived.ChangeOld
import Derived.Below
import Derived.SizedLaws
namespace Go.Proofs.Ytibnakpefjjoiaa.filesNil
open Go.ChangeShapes Go.WideShapes Go.ChangeAt Go.RowKit
open Go.ChangeMaps (open_string shut_string)
open Go.Proofs.YtibnakpefjjoiaaW.PrintWords Go.Proofs.Ytibnakpefjjoiaa.Q
set_option linter.unusedVariables false
theorem own : ownKnob Try.prog.godebug = none := by kernel_rfl
theorem laidOut : laidOutB Try.prog = true := by kernel_rfl
set_option maxRecDepth 100000 in
theorem lifted (os : Os) (started : os.Started) (H : Type) (enc : TypeId × Value → H) :
    ReturnsInHanded {} Try.checked os 8 .any (Rows.filesNilSpec.pre6 enc Try.prog Try.f8 Rows.filesNilRow.domain false) (Rows.filesNilSpec.post enc Try.prog Try.f8 false true false false) := by
  refine returnsInHanded_of_change_sized (C := Try.checked) own started (by kernel_rfl) Try.func8
    (ChangeSpec.witness6 (enc := enc) (C := Try.checked) false ⟨#[], #[.agg #[.int .u8 0, .string ByteArray.empty, .string ByteArray.empty, .slice none 0 0, .int .i64 0, .slice none 0 0]], []⟩ 8 (by kernel_rfl) (by kernel_rfl) (by kernel_rfl) (by kernel_rfl)) ?_
  intro W base args ds gs before hval0 hW hcnd hsz0 _
  have hsz : (DataW.weightsEach Try.prog (Try.f8.params.toList ++ Rows.filesNilSpec.plain.varTypes Try.prog) (ds ++ gs)).all (· ≤ reachBytes) = true := hsz0
  have hval : ∀ (j : Nat) t v, Try.f8.params[j]? = some t → args[j]? = some v → Value.okWide Try.prog W .any base t v := hval0
  have hW' := hW
  obtain ⟨p, q, hA0, hV, rfl, hfz, hnd⟩ := hW
  have hA : DataW.TrodAll enc Try.prog W 0 (fun _ => true) true Try.f8.params.toList args.toList ds p := hA0
  rw [Try.params8] at hA hval hsz
  obtain ⟨v0, vs0, d0, ds0, p0, q0, hargs, rfl, rfl, h0, r0⟩ := trodAll_cons hA
  obtain ⟨rfl, rfl, rfl⟩ := trodAll_nil r0
  obtain rfl : args = #[v0] := by cases args; simp_all
  obtain ⟨rfl, rfl⟩ := trodVars_none hV
  have lt0 : ∀ x ∈ p0, x.block < W.heap.size := by obtain ⟨m, hm⟩ := h0; exact DataW.trod_lt m _ _ _ hm
  obtain ⟨x0, hx0, hgx0⟩ := (by obtain ⟨m, hm⟩ := h0; exact opens46 _ enc W m _ _ hm : ∃ x : S46, k46.K W x v0.cells.toList ∧ good46 x)
  obtain ⟨a0_0, a0_1, a0_2, l0_3, a0_4, l0_5⟩ := x0
  obtain ⟨cs0, rfl, _⟩ := okWide_struct Try.underlying46 (hval 0 46 v0 rfl rfl)
  obtain ⟨A0_3, c0_3, A0_5, c0_5, ek0, hc0_3, hr0_3, hc0_5, hr0_5⟩ := k46_open hx0
  obtain rfl : cs0 = #[.int .u8 a0_0, .string a0_1, .string a0_2, .slice A0_3 l0_3.length c0_3, .int .i64 a0_4, .slice A0_5 l0_5.length c0_5] := by apply Array.ext'; exact ek0
  obtain ⟨hg0_0, hg0_1, hg0_2, hg0_3, hg0_4, hg0_5⟩ := hgx0
  clear hA0 hval0 hsz0 hsz
  refine (Go.Proofs.Ytibnakpefjjoiaa.Fs.nil_law2 a0_0 a0_1 a0_2 _ _ l0_3 a0_4 _ _ l0_5 W hr0_3 hc0_3 hr0_5 hc0_5 hg0_0 hg0_1 hg0_2 hg0_3 hg0_4 hg0_5).mono fun e W' ⟨he, bel⟩ => ?_
  subst he
  exact ⟨_, rfl, _, _, _, [], _, [], hW', trodAll_mk1 (shut_bool Try.underlying4 _), (trodAll_cons_mk (Below.trod laidOut (by kernel_rfl) (of_decide_eq_true (by kernel_rfl)) h0 bel lt0) trodAll_mk0), rfl, bel.frame _, fun h => by cases h⟩
theorem over : Rows.filesNilRow.holds Try.pinned (OpenSpec.ofChange Rows.filesNilSpec) :=
  OpenClaim.holds_of_wide 8 Try.f8 rfl rfl rfl rfl rfl rfl rfl ⟨rfl, rfl, rfl, rfl, rfl⟩ rfl rfl rfl rfl rfl (by kernel_rfl) Try.func8 (by kernel_rfl)
    (of_decide_eq_true (by kernel_rfl)) (by unfold Func.isWrapper; first | (rw [if_pos (by decide +kernel)]; kernel_rfl) | (rw [if_neg (by decide +kernel)]; exact ⟨rfl, rfl⟩))
    (fun os started H enc _ => lifted os started H enc)
theorem proved : Rows.FilesNilSaid := over
#print axioms proved
end Go.Proofs.Ytibnakpefjjoiaa.filesNil
namespace Go.Proofs.Ytibnakpefjjoiaa
/-- The row, under a short name, for the claim. -/
theorem filesNil_holds : Rows.FilesNilSaid := filesNil.proved
end Go.Proofs.Ytibnakpefjjoiaa
