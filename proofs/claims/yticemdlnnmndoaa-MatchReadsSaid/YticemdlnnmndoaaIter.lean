/- The program's range over its map of a matcher's kinds; the index of a byte in a string. -/
import Derived.Test.YticemdlnnmndoaaProg
import Derived.Below
import Derived.Deep.Draws
import Derived.Deep.AppendLies
import Derived.Maps.AppendAt
import Derived.OwnWalk
import Derived.Laws.BytesArg
import Derived.Laws.MakeOwn
import Derived.Laws.OwnMore
import Derived.Deep.OwnRows
import Derived.Tactics
import Derived.Lib.ConvBytes
import Derived.Laws.Slices
import Derived.WalkKit
import Derived.KernelRfl
import Derived.RowKit3
import Derived.Deep.LoopGhost
import Derived.Deep.QuietTactic
import Derived.BigQuiet
import Derived.WideLaws
import Derived.Deep.DeepCutAuto
import Derived.Deep.CutBlock
import Derived.Deep.RegionHeld3
import Derived.Laws.Rows
import Derived.Lib.AppendStr
import Derived.ArgAppend
import Derived.Laws.IdiomCopy
import Derived.OrdersHeld
import Derived.Laws.BitsLemmas
import Derived.RowKit
import Derived.Test.YticemdlnnmndoaaOpen
import Derived.StillTailTactics
import Derived.Test.YticemdlnnmndoaaBld
import Derived.Test.YticemdlnnmndoaaWWords
import Derived.Test.YticemdlnnmndoaaWLast
import Derived.Test.YticemdlnnmndoaaWTab
import Derived.Test.YticemdlnnmndoaaWFour
import Derived.Test.YticemdlnnmndoaaWQPut
import Derived.Test.YticemdlnnmndoaaWApart
import Derived.Test.YticemdlnnmndoaaWArr
import Derived.Test.YticemdlnnmndoaaWZeros
import Derived.Test.YticemdlnnmndoaaWFoot
import Derived.Test.YticemdlnnmndoaaWKept
import Derived.Test.YticemdlnnmndoaaWShare
import Derived.Test.YticemdlnnmndoaaWN
import Derived.Test.YticemdlnnmndoaaWFootNe
import Derived.Test.YticemdlnnmndoaaWAt
import Derived.Test.YticemdlnnmndoaaWEqStruct
import Derived.Test.YticemdlnnmndoaaWRepsOne
import Derived.Test.YticemdlnnmndoaaWInv
import Derived.Test.YticemdlnnmndoaaWInvWords
import Derived.Test.YticemdlnnmndoaaWGuard
import Derived.Test.YticemdlnnmndoaaWNEv
import Derived.Test.YticemdlnnmndoaaWMore
import Derived.Laws.Tables
import Derived.MapKept
import Derived.Laws.EntriesVeiled
import Derived.Carry
import Derived.Maps.RangeRun
import Derived.Lib.Bytealg
import Derived.Shelf.Strings.Search1
import Derived.Test.YticemdlnnmndoaaOps
namespace Go.Proofs.Yticemdlnnmndoaa.Ops
open Go.ChangeMaps (setBlock)
open Go.RowKit Go.Proofs.YticemdlnnmndoaaW.PrintWords Go.Proofs.YticemdlnnmndoaaW.PrintLast Go.Proofs.YticemdlnnmndoaaW.PrintMore
set_option linter.unusedVariables false
theorem idx_inner (s : ByteArray) (c : Int) (w : World) : Calls Try.prog 55 #[.string s, .int .u8 c] w fun e w' => e = .returned (.int .i64 (Lib.indexByte s.data.toList c.toNat.toUInt8)) ∧ w' = w := by
  go_enter Try.func55, Try.ntmps55
  go_wp2
  rw [run_callFunc_extern Try.func59 (by kernel_rfl) (by kernel_rfl) (by kernel_rfl) (e := Extern.BytealgIndexByte.indexByte) (by kernel_rfl), Lib.run_indexByteString]
  simp only [Result.andThen]
  rw [Oper.upon_value]
  go_wp2
  go_ret
  exact ⟨rfl, rfl⟩
theorem idx_calls (s : ByteArray) (c : Int) (w : World) : Calls Try.prog 42 #[.string s, .int .u8 c] w fun e w' => e = .returned (.int .i64 (Lib.indexByte s.data.toList c.toNat.toUInt8)) ∧ w' = w := by
  go_enter Try.func42, Try.ntmps42
  go_wp2_with fail
  refine (idx_inner s c _).mono ?_
  rintro e w' ⟨rfl, rfl⟩
  go_wp2
  go_ret
  exact ⟨rfl, rfl⟩
theorem idx_v (s : ByteArray) (c v : Int) (w : World) (hv : Lib.indexByte s.data.toList c.toNat.toUInt8 = v) : Calls Try.prog 42 #[.string s, .int .u8 c] w fun e w' => e = .returned (.int .i64 v) ∧ w' = w := by
  have := idx_calls s c w
  rw [hv] at this
  exact this
theorem opsMap_mem {e : MapEntry} (h : e ∈ opsMap.toList) : e = opE 0 ∨ e = opE 1 ∨ e = opE 2 := by
  simpa [opsMap] using h
def sgO : Nat → ByteArray
  | 0 => ⟨#[61]⟩
  | 1 => ⟨#[33, 61]⟩
  | _ => ⟨#[94, 61]⟩
theorem opE_shape {e : MapEntry} (h : e ∈ opsMap.toList) : ∃ (i kf : Nat), i < 3 ∧ e.key = .int .u8 (i : Int) ∧ e.val = .agg #[.string (sgO i), .func (.func kf) #[] #[]] ∧ e.born = i := by
  rcases opsMap_mem h with rfl | rfl | rfl
  · exact ⟨0, 45, by omega, rfl, rfl, rfl⟩
  · exact ⟨1, 46, by omega, rfl, rfl, rfl⟩
  · exact ⟨2, 47, by omega, rfl, rfl, rfl⟩
theorem run_range (w : World) (b : Nat) (hb : w.heap[b]? = some (.map opsMap 3)) : (Instr.range 53 (.map (some b))).run Try.prog w = .ok (.pointer (some ⟨w.heap.size, 0, none⟩)) (w.alloc (.mapIter (some b) 3 #[] 3)) := by
  simp [Instr.range, run_underlying Try.underlying53, MapKept.run_getObj_map hb, Result.andThen]
section
variable {ops : Array Oper} {rest : List Oper} {o : Oper} {a : Act} {Q : Exit → Act → World → Prop} {W : World}
theorem ev_range (hgd : o.guard = none) (m : Operand) (hop : o.op = .range 53 m) (b : Nat) (hm : a.eval m = .map (some b)) (hb : W.heap[b]? = some (.map opsMap 3))
    (h : ∀ r, r = W.heap.size → ∀ W1, W1.heap[r]? = some (.mapIter (some b) 3 #[] 3) → Below W.heap.size W W1 → wpList Try.prog ops Q rest (a.put o.dst (.pointer (some ⟨r, 0, none⟩))) W1) : wpList Try.prog ops Q (o :: rest) a W := by
  refine Kd.event_run hgd ?_ (h _ rfl _ (MapKept.heap_alloc W _).1 (below_alloc (Below.refl _ _) _))
  simp [execOp, hop, hm, run_range W b hb, Result.andThen]
/-- One step of the range: either nothing is left, or an entry that has not been seen comes out, and is read. -/
theorem ev_next (hgd : o.guard = none) (it : Operand) (hop : o.op = .next it false) (r b c0 : Nat) (seen : Array Nat) (hit : a.eval it = .pointer (some ⟨r, 0, none⟩)) (hr : W.heap[r]? = some (.mapIter (some b) 3 seen c0)) (hb : W.heap[b]? = some (.map opsMap 3)) (hc : 3 ≤ c0) (hrb : b ≠ r)
    (h0 : (∀ e ∈ opsMap.toList, e.born ∈ seen) → wpList Try.prog ops Q rest (a.put o.dst (.tuple #[.bool false])) W)
    (h1 : ∀ e ∈ opsMap.toList, e.born ∉ seen → ∀ W1, W1.heap[r]? = some (.mapIter (some b) 3 (seen.push e.born) 3) → (Instr.entry (.pointer (some ⟨r, 0, none⟩))).run Try.prog W1 = .ok (.tuple #[e.key, e.val]) W1 → W.grownBy W1 (some r) → wpList Try.prog ops Q rest (a.put o.dst (.tuple #[.bool true, e.key, e.val])) W1) : wpList Try.prog ops Q (o :: rest) a W := by
  have hold : ∀ x ∈ opsMap.toList, x.born < 3 := by
    intro x hx
    rcases opsMap_mem hx with rfl | rfl | rfl <;> simp [opE]
  rcases run_next_at (P := Try.prog) W o.type r b 3 c0 seen opsMap 3 hr hb hold hc with ⟨hz, hrun⟩ | ⟨e, he, w1, hw1, hrun⟩
  · refine Kd.event_run hgd ?_ (h0 ?_)
    · simp [execOp, hop, hit, hrun, Result.andThen]
    · intro e he
      unfold leftOf at hz
      have := Array.eq_empty_of_size_eq_zero hz
      rw [Array.filter_eq_empty_iff] at this
      have h2 := this e (by simpa using he)
      simpa using h2
  · unfold leftOf at he
    have he2 : e ∈ opsMap.toList ∧ e.born ∉ seen := by simpa using he
    have hr1 : w1.heap[r]? = some (.mapIter (some b) 3 seen c0) := by rcases hw1 with rfl | rfl <;> exact hr
    have hb1 : w1.heap[b]? = some (.map opsMap 3) := by rcases hw1 with rfl | rfl <;> exact hb
    have hg : W.grownBy (setBlock w1 r (.mapIter (some b) 3 (seen.push e.born) 3)) (some r) := by
      rcases hw1 with rfl | rfl
      · exact ⟨rfl, rfl, rfl, by simp [setBlock], fun i _ hi => (MapKept.heap_set (o' := .mapIter (some b) 3 (seen.push e.born) 3) hr).2 i (fun e => hi (by rw [e]))⟩
      · exact ⟨rfl, rfl, rfl, by simp [setBlock], fun i _ hi => (MapKept.heap_set (o' := .mapIter (some b) 3 (seen.push e.born) 3) hr1).2 i (fun e => hi (by rw [e]))⟩
    refine Kd.event_run hgd ?_ (h1 e he2.1 he2.2 _ (MapKept.heap_set hr1).1 ?_ hg)
    · simp [execOp, hop, hit, hrun, Result.andThen]
    · exact run_entry_at _ r b 3 seen opsMap 3 e (MapKept.heap_set hr1).1 (((MapKept.heap_set hr1).2 b hrb).trans hb1) he2.1 (by decide)
end
end Go.Proofs.Yticemdlnnmndoaa.Ops
