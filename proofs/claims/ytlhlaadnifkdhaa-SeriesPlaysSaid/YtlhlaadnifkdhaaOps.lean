/- The program's map of a matcher's kinds: what the call that makes it lays down, and what a look-up in it tells. -/
import Derived.Test.YtlhlaadnifkdhaaProg
import Derived.Below
import Derived.Deep.Draws
import Derived.Deep.AppendLies
import Derived.Maps.AppendAt
import Derived.OwnWalk
import Derived.Laws.BytesArg
import Derived.Laws.MakeOwn
import Derived.Laws.OwnMore
import Derived.Deep.OwnRows
import Derived.Tactics
import Derived.Lib.ConvBytes
import Derived.Laws.Slices
import Derived.WalkKit
import Derived.KernelRfl
import Derived.RowKit3
import Derived.Deep.LoopGhost
import Derived.Deep.QuietTactic
import Derived.BigQuiet
import Derived.WideLaws
import Derived.Deep.DeepCutAuto
import Derived.Deep.CutBlock
import Derived.Deep.RegionHeld3
import Derived.Laws.Rows
import Derived.Lib.AppendStr
import Derived.ArgAppend
import Derived.Laws.IdiomCopy
import Derived.OrdersHeld
import Derived.Laws.BitsLemmas
import Derived.RowKit
import Derived.Test.YtlhlaadnifkdhaaOpen
import Derived.StillTailTactics
import Derived.Test.YtlhlaadnifkdhaaBld
import Derived.Test.YtlhlaadnifkdhaaWWords
import Derived.Test.YtlhlaadnifkdhaaWLast
import Derived.Test.YtlhlaadnifkdhaaWTab
import Derived.Test.YtlhlaadnifkdhaaWFour
import Derived.Test.YtlhlaadnifkdhaaWQPut
import Derived.Test.YtlhlaadnifkdhaaWApart
import Derived.Test.YtlhlaadnifkdhaaWArr
import Derived.Test.YtlhlaadnifkdhaaWZeros
import Derived.Test.YtlhlaadnifkdhaaWFoot
import Derived.Test.YtlhlaadnifkdhaaWKept
import Derived.Test.YtlhlaadnifkdhaaWShare
import Derived.Test.YtlhlaadnifkdhaaWN
import Derived.Test.YtlhlaadnifkdhaaWFootNe
import Derived.Test.YtlhlaadnifkdhaaWAt
import Derived.Test.YtlhlaadnifkdhaaWEqStruct
import Derived.Test.YtlhlaadnifkdhaaWRepsOne
import Derived.Test.YtlhlaadnifkdhaaWInv
import Derived.Test.YtlhlaadnifkdhaaWInvWords
import Derived.Test.YtlhlaadnifkdhaaWGuard
import Derived.Test.YtlhlaadnifkdhaaWNEv
import Derived.Test.YtlhlaadnifkdhaaWMore
import Derived.Laws.Tables
import Derived.MapKept
import Derived.Laws.EntriesVeiled
import Derived.Carry
namespace Go.Proofs.Ytlhlaadnifkdhaa.Ops
open Go.RowKit Go.Proofs.YtlhlaadnifkdhaaW.PrintWords Go.Proofs.YtlhlaadnifkdhaaW.PrintLast Go.Proofs.YtlhlaadnifkdhaaW.PrintMore
set_option linter.unusedVariables false
def opV : Nat → Value
  | 0 => .agg #[.string ⟨#[61]⟩, .func (.func 64) #[] #[]]
  | 1 => .agg #[.string ⟨#[33, 61]⟩, .func (.func 65) #[] #[]]
  | _ => .agg #[.string ⟨#[94, 61]⟩, .func (.func 66) #[] #[]]
def opE (n : Nat) : MapEntry := ⟨.int .u8 n, opV n, n⟩
def opsMap : Array MapEntry := #[opE 0, opE 1, opE 2]
theorem run_ins {w : World} {b clock : Nat} {es : Array MapEntry} {q : Int} {v : Value} (hb : w.heap[b]? = some (.map es clock)) (hf : Instr.findNow (.int .u8) (.int .u8 q) es.toList 0 = some none) :
    (Instr.mapUpdate 91 (.map (some b)) (.int .u8 q) v).run Try.prog w = .ok () { w with heap := w.heap.setIfInBounds b (.map (es.push ⟨.int .u8 q, v, clock⟩) (clock + 1)) } := by
  have h5 : Try.prog.underlying 5 = some (.int .u8) := Try.underlying5
  simp [Instr.mapUpdate, run_underlying Try.underlying91, MapKept.run_getObj_map hb, MapKept.run_checkKey h5 (show MapKept.IsKey (.int .u8) (.int .u8 q) from rfl), MapKept.run_findKey h5 hf, MapKept.run_setObj_map _ hb, Result.andThen]
section
variable {ops : Array Oper} {rest : List Oper} {o : Oper} {a : Act} {Q : Exit → Act → World → Prop} {W : World}
theorem ev_build (hgd : o.guard = none) (t : TypeId) (parts : Array (Nat × Operand)) (hop : o.op = .build t parts) (ps : Array (Nat × Value)) (hps : (parts.map fun (i, x) => (i, a.eval x)) = ps) (cells : Array Value) (hc : Try.prog.built t ps.toList = some cells)
    (h : wpList Try.prog ops Q rest (a.put o.dst (.agg cells)) W) : wpList Try.prog ops Q (o :: rest) a W := by
  refine Kd.event_run hgd ?_ h
  have := run_build W t ps cells hc
  rw [← hps] at this
  simp [execOp, hop, this, Result.andThen]
theorem ev_insert (hgd : o.guard = none) (m x v : Operand) (hop : o.op = .insert 91 m x v) (b clock : Nat) (es : Array MapEntry) (q : Int) (val : Value) (hm : a.eval m = .map (some b)) (hx : a.eval x = .int .u8 q) (hv : a.eval v = val)
    (hb : W.heap[b]? = some (.map es clock)) (hf : Instr.findNow (.int .u8) (.int .u8 q) es.toList 0 = some none)
    (h : ∀ W', W'.heap[b]? = some (.map (es.push ⟨.int .u8 q, val, clock⟩) (clock + 1)) → W.grownBy W' (some b) → wpList Try.prog ops Q rest (a.put o.dst undef) W') : wpList Try.prog ops Q (o :: rest) a W := by
  refine wpList_plain hgd fun K' hK' => ?_
  have hrun := run_ins (v := val) hb hf
  unfold Oper.wp
  simp [execOp, hop, hm, hx, hv, hrun, Result.andThen]
  have hs := MapKept.heap_set (o' := .map (es.push ⟨.int .u8 q, val, clock⟩) (clock + 1)) hb
  exact hK' _ _ (h _ hs.1 ⟨rfl, rfl, rfl, by simp, fun i _ hi => hs.2 i (fun e => hi (by rw [e]))⟩)
end
def lookB (q : Int) : Bool := q == 0 || (q == 1 || q == 2)
def lookV (q : Int) : Value := if q = 0 then opV 0 else if q = 1 then opV 1 else if q = 2 then opV 2 else .agg #[.string ⟨#[]⟩, .nilFunc]
theorem run_look {w : World} {b : Nat} {q : Int} (hb : w.heap[b]? = some (.map opsMap 3)) :
    (Instr.lookup 91 (.map (some b)) (.int .u8 q) true).run Try.prog w = .ok (.tuple #[lookV q, .bool (lookB q)]) w := by
  have h5 : Try.prog.underlying 5 = some (.int .u8) := Try.underlying5
  by_cases h0 : q = 0
  · subst h0
    have hf : Instr.findNow (.int .u8) (.int .u8 0) opsMap.toList 0 = some (some (0, opV 0)) := rfl
    simp [Instr.lookup, run_underlying Try.underlying91, MapKept.run_getObj_map hb, MapKept.run_checkKey h5 (show MapKept.IsKey (.int .u8) (.int .u8 0) from rfl), MapKept.run_findKey h5 hf, Result.andThen, lookV, lookB]
  · by_cases h1 : q = 1
    · subst h1
      have hf : Instr.findNow (.int .u8) (.int .u8 1) opsMap.toList 0 = some (some (1, opV 1)) := rfl
      simp [Instr.lookup, run_underlying Try.underlying91, MapKept.run_getObj_map hb, MapKept.run_checkKey h5 (show MapKept.IsKey (.int .u8) (.int .u8 1) from rfl), MapKept.run_findKey h5 hf, Result.andThen, lookV, lookB]
    · by_cases h2 : q = 2
      · subst h2
        have hf : Instr.findNow (.int .u8) (.int .u8 2) opsMap.toList 0 = some (some (2, opV 2)) := rfl
        simp [Instr.lookup, run_underlying Try.underlying91, MapKept.run_getObj_map hb, MapKept.run_checkKey h5 (show MapKept.IsKey (.int .u8) (.int .u8 2) from rfl), MapKept.run_findKey h5 hf, Result.andThen, lookV, lookB]
      · have hf : Instr.findNow (.int .u8) (.int .u8 q) opsMap.toList 0 = some none := by
          have e0 : (q == (0 : Int)) = false := by simpa using h0
          have e1 : (q == (1 : Int)) = false := by simpa using h1
          have e2 : (q == (2 : Int)) = false := by simpa using h2
          simp [opsMap, opE, Instr.findNow, Instr.sameNow, e0, e1, e2]
        simp [Instr.lookup, run_underlying Try.underlying91, MapKept.run_getObj_map hb, MapKept.run_checkKey h5 (show MapKept.IsKey (.int .u8) (.int .u8 q) from rfl), MapKept.run_findKey h5 hf, Result.andThen, lookV, lookB, h0, h1, h2, Try.zeroValue95]
theorem look_false {q : Int} (h : lookB q = false) : lookV q = .agg #[.string ⟨#[]⟩, .nilFunc] := by
  unfold lookB at h
  simp only [Bool.or_eq_false_iff, beq_eq_false_iff_ne, ne_eq] at h
  unfold lookV
  rw [if_neg h.1, if_neg h.2.1, if_neg h.2.2]
section
variable {ops : Array Oper} {rest : List Oper} {o : Oper} {a : Act} {Q : Exit → Act → World → Prop} {W : World}
theorem ev_look (hgd : o.guard = none) (m x : Operand) (hop : o.op = .lookup 91 m x true) (b : Nat) (q : Int) (hm : a.eval m = .map (some b)) (hx : a.eval x = .int .u8 q) (hb : W.heap[b]? = some (.map opsMap 3)) (sg : ByteArray) (fv : Value) (is : Bool) (hv : lookV q = .agg #[.string sg, fv]) (hi : lookB q = is)
    (h : wpList Try.prog ops Q rest (a.put o.dst (.tuple #[.agg #[.string sg, fv], .bool is])) W) : wpList Try.prog ops Q (o :: rest) a W := by
  refine Kd.event_run hgd ?_ h
  have := run_look (q := q) hb
  rw [hv, hi] at this
  simp [execOp, hop, hm, hx, this, Result.andThen]
end
set_option maxHeartbeats 2000000 in
theorem ops_calls (w : World) : Calls Try.prog 46 #[] w fun e w' => ∃ b, e = .returned (.map (some b)) ∧ w.heap.size ≤ b ∧ w'.heap[b]? = some (.map opsMap 3) ∧ Below w.heap.size w w' := by
  have HB := Aside0.mk (Below.refl w.heap.size w)
  go_enter Try.func46, Try.ntmps46
  have hmm := @run_makeMap Try.prog
  go_wp2_with (first
    | ((with_reducible refine gate_dst (N := 2) rfl ?_); refine ev_build rfl 95 _ rfl _ rfl #[.string ⟨#[61]⟩, .func (.func 64) #[] #[]] (by kernel_rfl) ?_)
    | ((with_reducible refine gate_dst (N := 3) rfl ?_); refine ev_build rfl 95 _ rfl _ rfl #[.string ⟨#[33, 61]⟩, .func (.func 65) #[] #[]] (by kernel_rfl) ?_)
    | ((with_reducible refine gate_dst (N := 4) rfl ?_); refine ev_build rfl 95 _ rfl _ rfl #[.string ⟨#[94, 61]⟩, .func (.func 66) #[] #[]] (by kernel_rfl) ?_)
    | (refine ev_insert rfl _ _ _ rfl _ 0 #[] 0 (opV 0) rfl rfl rfl (MapKept.heap_alloc _ _).1 rfl ?_; intro W1 hW1 hG1; have HM := Aside0.mk hW1; have HB2 := Aside0.mk ((below_alloc HB.out _).grown hG1 (by simp) (by intro k hk; cases hk; exact Nat.le_refl _)); clear hW1 hG1 HB; have HB := HB2; clear HB2)
    | (refine ev_insert rfl _ _ _ rfl _ 1 _ 1 (opV 1) rfl rfl rfl HM.out rfl ?_; intro W1 hW1 hG1; have HM2 := Aside0.mk hW1; have HB2 := Aside0.mk (HB.out.grown hG1 (below_size HB.out) (by intro k hk; cases hk; exact Nat.le_refl _)); clear hW1 hG1 HB HM; have HB := HB2; have HM := HM2; clear HB2 HM2)
    | (refine ev_insert rfl _ _ _ rfl _ 2 _ 2 (opV 2) rfl rfl rfl HM.out rfl ?_; intro W1 hW1 hG1; have HM2 := Aside0.mk hW1; have HB2 := Aside0.mk (HB.out.grown hG1 (below_size HB.out) (by intro k hk; cases hk; exact Nat.le_refl _)); clear hW1 hG1 HB HM; have HB := HB2; have HM := HM2; clear HB2 HM2)
    | go_in)
  go_ret
  exact ⟨_, rfl, Nat.le_refl _, HM.out, HB.out⟩
end Go.Proofs.Ytlhlaadnifkdhaa.Ops
