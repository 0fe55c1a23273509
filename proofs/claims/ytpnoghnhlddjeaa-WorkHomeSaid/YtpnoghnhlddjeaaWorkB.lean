/- Taking a task that is due; dropping a rule's; workers that nobody made: walked. -/
import Derived.Test.YtpnoghnhlddjeaaWorkA
namespace Go.Proofs.Ytpnoghnhlddjeaa.Wk
open Go.RowKit Go.Proofs.YtpnoghnhlddjeaaW.PrintWords Go.Proofs.YtpnoghnhlddjeaaW.PrintLast Go.Proofs.YtpnoghnhlddjeaaW.PrintMore Go.Proofs.Ytpnoghnhlddjeaa.Q Go.Proofs.Ytpnoghnhlddjeaa.Own Go.Proofs.Ytpnoghnhlddjeaa.Hp
set_option linter.unusedVariables false
set_option linter.unusedSimpArgs false
attribute [local go_sem ↓] Go.wp_at_zero Go.wp_at_succ

/-- Workers that nobody made. -/
def DeadW (w : World) (v : Value) : Prop := v = .pointer none ∨ ∃ b, v = ptr b ∧ w.cell? ⟨b, 0, none⟩ = some (.slice none 0 0) ∧ w.cell? ⟨b, 1, none⟩ = some .nilFunc
theorem DeadW.below {w w' : World} {v : Value} (h : DeadW w v) (hb : Below w.heap.size w w') : DeadW w' v := by
  rcases h with h | ⟨b, h1, h2, h3⟩
  · exact .inl h
  · exact .inr ⟨b, h1, pw_cell_below hb h2, pw_cell_below hb h3⟩
set_option maxRecDepth 100000 in
theorem wdead_none {w : World} {v : Value} (h : DeadW w v) : Calls Try.prog 27 #[v] w fun e w' => e = .returned (.bool true) ∧ w = w' := by
  rcases h with rfl | ⟨b, rfl, h0, h1⟩
  · go_enter Try.func27, Try.ntmps27
    go_wp2
    go_ret
    exact ⟨rfl, rfl⟩
  · have huf : ∀ W : World, (binOp .eql 54 .nilFunc .nilFunc).run Try.prog W = .ok (.bool true) W := fun W => by kernel_rfl
    go_enter Try.func27, Try.ntmps27
    go_wp2
    go_ret
    exact ⟨rfl, rfl⟩
set_option maxRecDepth 100000 in
theorem wdead_put {w : World} {v : Value} (h : DeadW w v) (x0 x1 : Int) : Calls Try.prog 8 #[v, .agg #[.int .u32 x0, .int .i64 x1]] w fun e w' => e = .returned (.int .i64 1) ∧ Below w.heap.size w w' := by
  have HBl : Aside0 (Below w.heap.size w (w.alloc (.cells #[.int .u32 x0, .int .i64 x1] 31))) := ⟨(Below.refl _ w).alloc (Nat.le_refl _) _⟩
  have HN := Aside0.mk (wdead_none (h.below HBl.out))
  clear h
  go_enter Try.func8, Try.ntmps8
  go_wp2_with (refine HN.out.mono ?_; rintro e w1 ⟨rfl, rfl⟩)
  go_ret
  exact ⟨rfl, HBl.out⟩
set_option maxRecDepth 100000 in
theorem wdead_drop {w : World} {v : Value} (h : DeadW w v) (r : Int) : Calls Try.prog 17 #[v, .int .u32 r] w fun e w' => e = .returned (.bool false) ∧ Below w.heap.size w w' := by
  have HN := Aside0.mk (wdead_none h)
  clear h
  go_enter Try.func17, Try.ntmps17
  go_wp2_with (refine HN.out.mono ?_; rintro e w1 ⟨rfl, rfl⟩)
  go_ret
  exact ⟨rfl, Below.refl _ _⟩
set_option maxRecDepth 100000 in
theorem wdead_count {w : World} {v : Value} (h : DeadW w v) (i : Int) : Calls Try.prog 10 #[v, .int .i64 i] w fun e w' => e = .returned (.int .i64 0) ∧ Below w.heap.size w w' := by
  have HN := Aside0.mk (wdead_none h)
  clear h
  go_enter Try.func10, Try.ntmps10
  go_wp2_with (refine HN.out.mono ?_; rintro e w1 ⟨rfl, rfl⟩)
  go_ret
  exact ⟨rfl, Below.refl _ _⟩
set_option maxRecDepth 100000 in
theorem wdead_all {w : World} {v : Value} (h : DeadW w v) : Calls Try.prog 9 #[v] w fun e w' => e = .returned (.slice none 0 0) ∧ Below w.heap.size w w' := by
  have HN := Aside0.mk (wdead_none h)
  clear h
  go_enter Try.func9, Try.ntmps9
  go_wp2_with (refine HN.out.mono ?_; rintro e w1 ⟨rfl, rfl⟩)
  go_ret
  exact ⟨rfl, Below.refl _ _⟩
set_option maxRecDepth 100000 in
theorem wdead_len {w : World} {v : Value} (h : DeadW w v) : Calls Try.prog 13 #[v] w fun e w' => e = .returned (.int .i64 0) ∧ Below w.heap.size w w' := by
  have HN := Aside0.mk (wdead_all h)
  clear h
  go_enter Try.func13, Try.ntmps13
  go_wp2_with (refine HN.out.mono ?_; rintro e w1 ⟨rfl, hb⟩)
  go_ret
  exact ⟨rfl, hb⟩
set_option maxHeartbeats 2000000 in
set_option maxRecDepth 100000 in
theorem wdead_turn {w : World} {v : Value} (h : DeadW w v) (i a : Int) : Calls Try.prog 12 #[v, .int .i64 i, .int .i64 a] w fun e w' => e = .returned (.tuple #[.agg #[.int .u32 0, .int .i64 0], .bool false, .bool false]) ∧ Below w.heap.size w w' := by
  have HBl : Aside0 (Below w.heap.size w (w.alloc (.cells #[.int .u32 0, .int .i64 0] 31))) := ⟨(Below.refl _ w).alloc (Nat.le_refl _) _⟩
  have HN := Aside0.mk (wdead_none (h.below HBl.out))
  have hu := Try.underlying31
  clear h
  go_enter Try.func12, Try.ntmps12
  go_wp2_with (refine HN.out.mono ?_; rintro e w1 ⟨rfl, rfl⟩)
  refine bodyPost_ret (v := .tuple #[.agg #[.int .u32 0, .int .i64 0], .bool false, .bool false]) (by simp [results, Try.results12, go_sem]) rfl ?_
  exact ⟨rfl, HBl.out⟩
/-- The earliest task that is due at a: told, and what is left. -/
def takeO (s : List S31) (a : Int) : Bool := match s with | [] => false | x :: _ => decide (x.f1 ≤ a)
def takeX (s : List S31) (a : Int) : S31 := if takeO s a = true then s.headD z31 else z31
def takeS (s : List S31) (a : Int) : List S31 := if takeO s a = true then s.tail else s
set_option maxHeartbeats 4000000 in
set_option maxRecDepth 100000 in
theorem take_calls {B : Nat} {w : World} {Ts : List Th} {p : Nat} {s : List S31} (h : Has B w (heapT p s :: Ts)) (a : Int) :
    Calls Try.prog 36 #[ptr p, .int .i64 a] w (StayPost B w (heapT p (takeS s a) :: Ts) (pairV (takeX s a) (takeO s a))) := by
  have HA := Aside0.mk (h.box #[.int .u32 0, .int .i64 0] 31).swap
  have HB : Aside0 (Below B w (w.alloc (.cells #[.int .u32 0, .int .i64 0] 31))) := ⟨(Below.refl B w).alloc h.size _⟩
  have HM := Aside0.mk (min_calls HA.out)
  have hu := Try.underlying31
  clear h
  cases s with
  | nil =>
    rw [show pairV (List.headD ([] : List S31) z31) (!List.isEmpty ([] : List S31)) = .tuple #[.agg #[.int .u32 0, .int .i64 0], .bool false] from rfl] at HM
    rw [show takeS [] a = [] from rfl, show pairV (takeX [] a) (takeO [] a) = .tuple #[.agg #[.int .u32 0, .int .i64 0], .bool false] from rfl]
    go_enter Try.func36, Try.ntmps36
    go_wp2_with fail
    generalize w.alloc (.cells #[.int .u32 0, .int .i64 0] 31) = w0 at HA HB HM ⊢
    generalize w.heap.size = b0 at HA HM ⊢
    refine HM.out.mono ?_
    rintro e w1 ⟨rfl, hA, hB⟩
    have HA1 := Aside0.mk (hA.box #[.int .u32 0, .int .i64 0] 31).third
    have HB1 := Aside0.mk ((HB.out.trans hB).alloc hA.size (.cells #[.int .u32 0, .int .i64 0] 31))
    obtain ⟨q1, q2, q3, q4⟩ := Has.box_cell HA1.out (b := b0) (cs := #[.int .u32 0, .int .i64 0]) (t := 31) (by simp)
    have f0 := q2 0
    have f1 := q2 1
    have c0 : (w1.alloc (.cells #[.int .u32 0, .int .i64 0] 31)).cell? ⟨b0, 0, none⟩ = some (.int .u32 0) := q1 0
    have c1 : (w1.alloc (.cells #[.int .u32 0, .int .i64 0] 31)).cell? ⟨b0, 1, none⟩ = some (.int .i64 0) := q1 1
    clear q1 q2 q3 q4 hA hB HM HA HB
    go_wp2_with fail
    have HAF := HA1
    have HBF := HB1
    obtain ⟨s1, t1⟩ := HAF.out.box_set 0 (.int .u32 0)
    obtain ⟨s2, t2⟩ := s1.box_set 1 (.int .i64 0)
    obtain ⟨q1, -, -, -⟩ := Has.box_cell s2 (b := b0) (t := 31) (cs := (((#[.int .u32 0, .int .i64 0] : Array Value).setIfInBounds 0 (.int .u32 0)).setIfInBounds 1 (.int .i64 0))) (by simp)
    have r0 := q1 0
    have r1 := q1 1
    have HAG := Aside0.mk s2
    have HBG := Aside0.mk (t1.trans t2)
    clear q1 s1 s2 t1 t2 f0 f1 c0 c1
    refine bodyPost_ret (v := .tuple #[.agg #[.int .u32 0, .int .i64 0], .bool false]) (by simp [results, Try.results36, go_sem] at r0 r1 ⊢; simp [r0, r1, go_sem]) rfl ?_
    exact ⟨rfl, HAG.out.tail.tail, HBF.out.trans HBG.out⟩
  | cons x t =>
    obtain ⟨x0, x1⟩ := x
    rw [show pairV (List.headD ((⟨x0, x1⟩ : S31) :: t) z31) (!List.isEmpty ((⟨x0, x1⟩ : S31) :: t)) = .tuple #[.agg #[.int .u32 x0, .int .i64 x1], .bool true] from rfl] at HM
    by_cases hgt : x1 > a
    · have e1 : takeO ((⟨x0, x1⟩ : S31) :: t) a = false := decide_eq_false (by dsimp only; omega)
      rw [show takeS ((⟨x0, x1⟩ : S31) :: t) a = (⟨x0, x1⟩ : S31) :: t by unfold takeS; rw [e1]; rfl, show pairV (takeX ((⟨x0, x1⟩ : S31) :: t) a) (takeO ((⟨x0, x1⟩ : S31) :: t) a) = .tuple #[.agg #[.int .u32 0, .int .i64 0], .bool false] by unfold takeX; rw [e1]; rfl]
      have d1 : decide (x1 > a) = true := decide_eq_true hgt
      clear e1
      go_enter Try.func36, Try.ntmps36
      go_wp2_with fail
      generalize w.alloc (.cells #[.int .u32 0, .int .i64 0] 31) = w0 at HA HB HM ⊢
      generalize w.heap.size = b0 at HA HM ⊢
      refine HM.out.mono ?_
      rintro e w1 ⟨rfl, hA, hB⟩
      have HAF := Aside0.mk (hA.box #[.int .u32 x0, .int .i64 x1] 31).third
      have HBF := Aside0.mk ((HB.out.trans hB).alloc hA.size (.cells #[.int .u32 x0, .int .i64 x1] 31))
      obtain ⟨q1, q2, q3, q4⟩ := Has.box_cell HAF.out (b := b0) (cs := #[.int .u32 0, .int .i64 0]) (t := 31) (by simp)
      have f0 := q2 0
      have f1 := q2 1
      have c0 : (w1.alloc (.cells #[.int .u32 x0, .int .i64 x1] 31)).cell? ⟨b0, 0, none⟩ = some (.int .u32 0) := q1 0
      have c1 : (w1.alloc (.cells #[.int .u32 x0, .int .i64 x1] 31)).cell? ⟨b0, 1, none⟩ = some (.int .i64 0) := q1 1
      clear q1 q2 q3 q4 hA hB HM HA HB
      go_wp2_with fail
      obtain ⟨s1, t1⟩ := HAF.out.box_set 0 (.int .u32 0)
      obtain ⟨s2, t2⟩ := s1.box_set 1 (.int .i64 0)
      obtain ⟨q1, -, -, -⟩ := Has.box_cell s2 (b := b0) (t := 31) (cs := (((#[.int .u32 0, .int .i64 0] : Array Value).setIfInBounds 0 (.int .u32 0)).setIfInBounds 1 (.int .i64 0))) (by simp)
      have r0 := q1 0
      have r1 := q1 1
      have HAG := Aside0.mk s2
      have HBG := Aside0.mk (t1.trans t2)
      clear q1 s1 s2 t1 t2 f0 f1 c0 c1
      refine bodyPost_ret (v := .tuple #[.agg #[.int .u32 0, .int .i64 0], .bool false]) (by simp [results, Try.results36, go_sem] at r0 r1 ⊢; simp [r0, r1, go_sem]) rfl ?_
      exact ⟨rfl, HAG.out.tail.tail, HBF.out.trans HBG.out⟩
    · have e1 : takeO ((⟨x0, x1⟩ : S31) :: t) a = true := decide_eq_true (by dsimp only; omega)
      rw [show takeS ((⟨x0, x1⟩ : S31) :: t) a = t by unfold takeS; rw [e1]; rfl, show pairV (takeX ((⟨x0, x1⟩ : S31) :: t) a) (takeO ((⟨x0, x1⟩ : S31) :: t) a) = .tuple #[.agg #[.int .u32 x0, .int .i64 x1], .bool true] by unfold takeX; rw [e1]; rfl]
      have d1 : decide (x1 > a) = false := decide_eq_false hgt
      clear e1
      go_enter Try.func36, Try.ntmps36
      go_wp2_with fail
      generalize w.alloc (.cells #[.int .u32 0, .int .i64 0] 31) = w0 at HA HB HM ⊢
      generalize w.heap.size = b0 at HA HM ⊢
      refine HM.out.mono ?_
      rintro e w1 ⟨rfl, hA, hB⟩
      have HA1 := Aside0.mk (hA.box #[.int .u32 x0, .int .i64 x1] 31).swap
      have HB1 := Aside0.mk ((HB.out.trans hB).alloc hA.size (.cells #[.int .u32 x0, .int .i64 x1] 31))
      clear hA hB HM HA HB
      go_wp2_with fail
      have HP := Aside0.mk (pop_calls HA1.out)
      rw [show pairV (List.headD ((⟨x0, x1⟩ : S31) :: t) z31) (!List.isEmpty ((⟨x0, x1⟩ : S31) :: t)) = .tuple #[.agg #[.int .u32 x0, .int .i64 x1], .bool true] from rfl] at HP
      refine HP.out.mono ?_
      rintro e w2 ⟨rfl, hA, hB⟩
      have HAF := Aside0.mk hA.third
      have HBF := Aside0.mk (HB1.out.trans hB)
      obtain ⟨q1, q2, q3, q4⟩ := Has.box_cell HAF.out (b := b0) (cs := #[.int .u32 0, .int .i64 0]) (t := 31) (by simp)
      have f0 := q2 0
      have f1 := q2 1
      have c0 : w2.cell? ⟨b0, 0, none⟩ = some (.int .u32 0) := q1 0
      have c1 : w2.cell? ⟨b0, 1, none⟩ = some (.int .i64 0) := q1 1
      clear q1 q2 q3 q4 hA hB HP HA1 HB1
      go_wp2_with fail
      obtain ⟨s1, t1⟩ := HAF.out.box_set 0 (.int .u32 x0)
      obtain ⟨s2, t2⟩ := s1.box_set 1 (.int .i64 x1)
      obtain ⟨q1, -, -, -⟩ := Has.box_cell s2 (b := b0) (t := 31) (cs := (((#[.int .u32 0, .int .i64 0] : Array Value).setIfInBounds 0 (.int .u32 x0)).setIfInBounds 1 (.int .i64 x1))) (by simp)
      have r0 := q1 0
      have r1 := q1 1
      have HAG := Aside0.mk s2
      have HBG := Aside0.mk (t1.trans t2)
      clear q1 s1 s2 t1 t2 f0 f1 c0 c1
      refine bodyPost_ret (v := .tuple #[.agg #[.int .u32 x0, .int .i64 x1], .bool true]) (by simp [results, Try.results36, go_sem] at r0 r1 ⊢; simp [r0, r1, go_sem]) rfl ?_
      exact ⟨rfl, HAG.out.tail.swap.tail, HBF.out.trans HBG.out⟩
end Go.Proofs.Ytpnoghnhlddjeaa.Wk
