/- The tasks of a slice, one behind the other, and all collected: walked. No law is proved here. -/
import Derived.Test.YtpnoghnhlddjeaaHeapO
import Derived.RangeFuncNested
import Derived.RangeFuncBound
import Derived.RangeFuncCalls
import Derived.RangeFuncLeaves
import Derived.RangeFuncBox
import Derived.Shelf.Abstract
import Derived.WalkKit
import Derived.OwnWalkIn
import Derived.TacticsInMore
import Derived.LoopNIn
import Derived.LoopIn
import Derived.Maps.AppendAt
namespace Go.Proofs.Ytpnoghnhlddjeaa.Hp
open Go.RowKit Go.Shelf Go.Proofs.YtpnoghnhlddjeaaW.PrintWords Go.Proofs.Ytpnoghnhlddjeaa.Q Go.Proofs.Ytpnoghnhlddjeaa.Own
set_option linter.unusedVariables false
set_option linter.unusedSimpArgs false
attribute [local go_sem] Oper.semAt_some

def encT (x : S31) : Array Value := #[aggT x]
def cellsT (x : S31) : List Value := [.int .u32 x.f0, .int .i64 x.f1]
theorem take_nat (l : List S31) (x : Int) (h0 : 0 ≤ x) (h : x < l.length) : l.take (x + 1).toNat = l.take x.toNat ++ [rd_T31 l x] := by
  have q := rd_nat l (i := x.toNat) (by omega)
  rw [Int.toNat_of_nonneg h0] at q
  rw [show (x + 1).toNat = x.toNat + 1 by omega, List.take_succ_eq_append_getElem (by omega), q]
set_option maxRecDepth 100000 in
set_option maxHeartbeats 2000000 in
theorem values_stops (n₀ Bs : Nat) (A : Option Addr) (c : Nat) (zs : List S31) (w : World) (hn₀ : n₀ ≤ w.heap.size) (hBs : w.cell? ⟨Bs, 0, none⟩ = some (.slice A zs.length c)) (hC : Kd.C k31 w A zs.length zs) (hA : ∀ ad, A = some ad → 0 < zs.length → ad.block < n₀) :
    SeqStopsK Fence.wide 6 Try.prog 60 #[.pointer (some ⟨Bs, 0, none⟩)] encT (Below n₀) (fun ys => ys = zs) (fun pre => pre <+: zs) zs.length w := fun l J Jx W hW hJ hJx hY h0 => by
  have hb0 : W.cell? ⟨Bs, 0, none⟩ = some (.slice A zs.length c) := (hW.cell (World.block_lt_of_cell? w _ hBs)).trans hBs
  have HC := Aside0.mk (Kd.C_below hC hW)
  have HY := Aside0.mk hY
  have HJ := Aside0.mk hJ
  have H0 := Aside0.mk h0
  have HA := Aside0.mk hA
  have HN : Aside0 (n₀ ≤ W.heap.size) := ⟨Nat.le_trans hn₀ hW.size⟩
  have hmax : zs.length ≤ 9223372036854775807 := hC.2.1
  have hu29 := Try.underlying31
  clear hC hY hJ hJx h0 hA hBs hW
  refine callsIn_of_wp Try.func60 rfl trivial ?_ rfl
  simp only [Try.ntmps60, List.size_toArray, List.length_cons, List.length_nil, Nat.reduceAdd, Nat.reduceSub, Array.replicate_succ, Array.replicate_zero, List.push_toArray, List.append_toArray, List.nil_append, List.cons_append]
  gi_wp2
  gi_loopw [7] (fun i wr => ∃ x : Int, 0 ≤ x ∧ x ≤ zs.length ∧ i = .int .i64 x ∧ Aside0 (J (zs.take x.toNat) wr) ∧ Aside0 (Below n₀ W wr)) (fun i _ => zs.length - (intOf i).toNat)
  case atStart => exact ⟨0, by omega, by omega, rfl, ⟨by simpa using H0.out⟩, ⟨Below.refl _ _⟩⟩
  case round =>
    clear H0 hb0
    obtain ⟨x, hx0, hx1, rfl, HJ1, HB⟩ := hrel
    by_cases hlt : x < zs.length
    · obtain ⟨ad, e0, hi2, hi3⟩ := at_T31 HC.out x hx0 hlt
      have hblk := HA.out ad e0 (by omega)
      cases e0
      replace hi2 := (HB.out.cell (by rw [add_block]; exact hblk)).trans hi2
      replace hi3 := (HB.out.cell (by dsimp only; rw [add_block]; exact hblk)).trans hi3
      have d0 : decide (0 ≤ x) = true := decide_eq_true hx0
      have d1 : decide (x < (zs.length : Int)) = true := decide_eq_true hlt
      have htk := take_nat zs x hx0 hlt
      obtain ⟨y, hy⟩ : ∃ y, y = rd_T31 zs x := ⟨_, rfl⟩
      rw [← hy] at hi2 hi3 htk
      have HTK := Aside0.mk htk
      obtain ⟨fn, tmps, assign, body, hy2, hR⟩ := HY.out (zs.take x.toNat) y (wr.alloc (.cells #[.int .u32 y.f0, .int .i64 y.f1] 31)) (HJ.out _ _ _ none HJ1.out (World.grownBy_alloc wr _ none) (fun r e => by cases e)) (by rw [List.length_take]; omega)
      dsimp only [encT] at hy2
      clear hy htk hblk
      gi_wp2
      refine hR.mono ?_
      rintro e W3 (⟨rfl, hJ3, hk3⟩ | ⟨rfl, hJx3⟩)
      · have HJ3 := Aside0.mk hJ3
        have HK3 := Aside0.mk hk3
        clear hJ3 hk3 hR hy2
        gi_wp2
        go_roundw
        case rel => exact ⟨x + 1, by omega, by omega, rfl, ⟨by rw [HTK.out]; exact HJ3.out⟩, ⟨(HB.out.alloc (Nat.le_trans HN.out HB.out.size) _).trans HK3.out⟩⟩
        case measure => simp [intOf]; omega
      · have HJx3 := Aside0.mk hJx3
        clear hJx3 hR hy2
        gi_wp2
        refine bodyPost_ret (results_none rfl _ _ _) rfl ?_
        exact ⟨⟨_, rfl⟩, .inr ⟨_, by rw [← HTK.out]; exact List.take_prefix _ _, HJx3.out⟩⟩
    · have d1 : decide (x < (zs.length : Int)) = false := decide_eq_false hlt
      gi_wp2
      go_end0
      have hfin := HJ1.out
      rw [List.take_of_length_le (by omega)] at hfin
      first | exact ⟨⟨_, rfl⟩, .inl ⟨zs, rfl, hfin⟩⟩ | exact ⟨⟨_, rfl⟩, .inl hfin⟩
def flatT (l : List S31) : List Value := l.flatMap cellsT
theorem flat_snoc (l : List S31) (x : S31) : flatT (l ++ [x]) = flatT l ++ [.int .u32 x.f0, .int .i64 x.f1] := by simp [flatT, cellsT]
theorem cell_blk {w : World} {b : Nat} {cs : Array Value} {t : TypeId} (h : w.heap[b]? = some (.cells cs t (0, 0))) (i : Nat) : w.cell? ⟨b, i, none⟩ = cs[i]? := by
  simp [World.cell?, h]
theorem cells_own (B : Nat) (cs : Array Value) (t : TypeId) {X Y : World} {row : Option Nat} (h : X.heap[B]? = some (.cells cs t (0, 0))) (hg : X.grownBy Y row) (hr : ∀ r, row = some r → ∃ o : Obj, X.heap[r]? = some o ∧ o.isCells = false) : Y.heap[B]? = some (.cells cs t (0, 0)) := by
  refine (hg.block B (Array.getElem?_eq_some_iff.1 h).1 fun e => ?_).trans h
  obtain ⟨o, ho, hc⟩ := hr B e.symm
  rw [h] at ho
  cases ho
  cases hc
theorem cells_newT (W : World) (cs : List Value) (t : TypeId) : ∀ j u, cs[j]? = some u → (W.alloc (.cells cs.toArray t)).cell? ((⟨W.heap.size, 0, none⟩ : Addr).add j) = some u := by
  intro j u h
  rw [add_plain, cell_blk (World.alloc_heap_new W (.cells cs.toArray t))]
  simpa using h
set_option maxRecDepth 100000 in
set_option maxHeartbeats 4000000 in
theorem appendSeq_in (Bs : Nat) (A : Option Addr) (c : Nat) (zs : List S31) (w : World) (hBs : w.cell? ⟨Bs, 0, none⟩ = some (.slice A zs.length c)) (hC : Kd.C k31 w A zs.length zs) (hA : ∀ ad, A = some ad → 0 < zs.length → ad.block < w.heap.size) (hlen : zs.length ≤ 1000000) :
    CallsIn Fence.wide 7 Try.prog 72 #[.slice none 0 0, .func (.func 60) #[] #[.pointer (some ⟨Bs, 0, none⟩)]] w fun e W' => ∃ v, e = .returned v ∧ W'.ownsRow w.heap.size 31 2 v zs.length (flatT zs) ∧ Below w.heap.size w W' := by
  obtain ⟨i0, hi, hz0, hz1, hz2⟩ := info_parts info31
  have hst := values_stops w.heap.size Bs A c zs (w.alloc (.cells #[.slice none 0 0] 22)) (by simp) (cell_al _ hBs) (Kd.C_below hC ((Below.refl _ w).alloc (Nat.le_refl _) _)) hA
  have bO := Boxed.new w 22 (.slice none 0 0)
  have hB0 : Below w.heap.size w (w.alloc (.cells #[.slice none 0 0] 22)) := (Below.refl _ w).alloc (Nat.le_refl _) _
  clear hBs hC hA
  refine callsIn_of_wp_marks Try.func72 rfl trivial ?_ rfl
  simp only [Try.ntmps72, List.size_toArray, List.length_cons, List.length_nil, Nat.reduceAdd, Nat.reduceSub, Array.replicate_succ, Array.replicate_zero, List.push_toArray, List.append_toArray, List.nil_append, List.cons_append]
  gi_wp2
  obtain ⟨W0, hW0⟩ : ∃ W0, W0 = w.alloc (.cells #[.slice none 0 0] 22) := ⟨_, rfl⟩
  have hsz : W0.heap.size = w.heap.size + 1 := by rw [hW0]; simp
  rw [← hW0] at hst bO hB0 ⊢
  clear hW0
  refine wpIn_rangeFunc_ownH (F := Fence.wide) (n := 7) rfl (by decide) (gf := 60) (lb := #[.pointer (some ⟨Bs, 0, none⟩)]) rfl trivial (enters_of Try.func60 (by kernel_rfl) rfl)
    hst belowK_t (belowK_b (by omega)) (Below.refl _ _) (fun _ => rfl)
    (fun pre W => (∃ v, Boxed W w.heap.size 22 v ∧ W.ownsRow w.heap.size 31 2 v pre.length (flatT pre) ∧ True) ∧ Below w.heap.size w W)
    (fun _ _ _ => False)
    (OwnFrom.and (Own.from (holdsRow_own w.heap.size w.heap.size 22 31 2 (fun pre => pre.length) flatT (fun _ _ => True)) _) (ownFrom_below (Nat.le_refl _) (by omega)))
    (fun _ _ _ _ _ hs _ _ => hs)
    ⟨⟨_, bO, World.ownsRow_nil _ _ _ _, trivial⟩, hB0⟩
    (fun x a' W => ∃ Bx, w.heap.size < Bx ∧ W.heap[Bx]? = some (.cells #[.int .u32 x.f0, .int .i64 x.f1] 31 (0, 0)) ∧ a' = { tmps := #[.slice none 0 0, .func (.func 60) #[] #[.pointer (some ⟨Bs, 0, none⟩)], .pointer (some ⟨w.heap.size, 0, none⟩), undef, .slice none 0 0, .pointer (some ⟨Bx, 0, none⟩), .func (.func 60) #[] #[.pointer (some ⟨Bs, 0, none⟩)], aggT x, undef, undef, undef, undef, undef], defers := [] })
    (fun x a' _ X Y row hs hg hr => by obtain ⟨Bx, h1, h2, h3⟩ := hs; exact ⟨Bx, h1, cells_own Bx _ _ h2 hg (fun r e => (hr r e).2), h3⟩)
    ?assign ?body ?done ?stop
  case assign =>
    rintro l pre x W K ⟨⟨v, hv, hrow, -⟩, hB⟩ hK
    dsimp only [encT, aggT]
    have hB1 := hB.size
    gi_wp2
    exact hK _ _ ((KeepsOthers.alloc _ _).from _) ((Below.refl _ W).alloc hB1 _) ⟨⟨v, hv.alloc _, hrow.alloc _, trivial⟩, hB.alloc hB1 _⟩ ⟨W.heap.size, hv.lt, World.alloc_heap_new W _, rfl⟩
  case body =>
    rintro l pre x a' W hl ⟨r, hr⟩ ⟨⟨v, hv, hrow, -⟩, hB⟩ ⟨Bx, hBx, bX, rfl⟩ hlt
    have hc := hv.cell
    have x0 : W.cell? ⟨Bx, 0, none⟩ = some (.int .u32 x.f0) := (cell_blk bX 0).trans rfl
    have x1 : W.cell? ⟨Bx, 1, none⟩ = some (.int .i64 x.f1) := (cell_blk bX 1).trans rfl
    have hBs := hB.size
    have HB := Aside0.mk hB
    have HV := Aside0.mk hv
    have HROW := Aside0.mk hrow
    clear bX hr hB hv hrow
    gi_wp2_with (gi_at_builtin; refine wpListIn_append_own _ rfl _ _ 22 rfl w.heap.size 31 i0 (.agg #[.int .u32 0, .int .i64 0]) 2 16 Try.underlying22 hi hz0 hz1 hz2 rfl (by decide) _ _ _ rfl (HROW.out.alloc _) ⟨W.heap.size, 0, none⟩ 1 1 [.int .u32 x.f0, .int .i64 x.f1] rfl rfl (cells_newT _ _ _) (by simp [Value.oneCell']) (by unfold maxLen; omega) (by omega) (by simp; omega) ?_; intro v' w1 hown' hgrow _; obtain ⟨g', cap', rfl⟩ := ownsRow_succ hown'; have hap := HV.out.appended (by decide) HROW.out hBs (Nat.le_refl _) hown' hgrow; have hc1 := hap.1.cell; have hf1 := hap.1.frozen; have HAP := Aside0.mk hap; clear hap hown' hgrow)
    obtain ⟨hv1, hv2, hr2, hk2, hb2⟩ := HAP.out
    exact ⟨hk2.from _, hb2, ⟨_, hv2, by rw [flat_snoc]; simpa using hr2, trivial⟩, HB.out.trans hb2⟩
  case done =>
    rintro D ys W hD rfl ⟨⟨v, hv, hrow, -⟩, hB⟩ hK
    have hc := hv.cell
    gi_wp2
    refine ⟨by simp, .inl ⟨_, _, rfl, run_takeDeferred hK, ?_⟩⟩
    exact ⟨_, results_tmp rfl _ _ _, v, rfl, ownsRow_putObj hrow _ hK rfl, hB.trans (belowK_b (w := w) (Nat.le_refl _) W D _ _ (by omega) hK rfl rfl)⟩
  case stop =>
    rintro D c pre W _ _ h _
    exact h.elim
end Go.Proofs.Ytpnoghnhlddjeaa.Hp
