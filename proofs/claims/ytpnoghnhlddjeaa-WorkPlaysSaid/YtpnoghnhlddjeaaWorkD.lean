/- A turn of a worker, in its cases: walked. -/
import Derived.Test.YtpnoghnhlddjeaaWorkA
namespace Go.Proofs.Ytpnoghnhlddjeaa.Wk
open Go.RowKit Go.Proofs.YtpnoghnhlddjeaaW.PrintWords Go.Proofs.YtpnoghnhlddjeaaW.PrintLast Go.Proofs.YtpnoghnhlddjeaaW.PrintMore Go.Proofs.Ytpnoghnhlddjeaa.Q Go.Proofs.Ytpnoghnhlddjeaa.Own Go.Proofs.Ytpnoghnhlddjeaa.Hp
set_option linter.unusedVariables false
set_option linter.unusedSimpArgs false
attribute [local go_sem ↓] Go.wp_at_zero Go.wp_at_succ

set_option maxRecDepth 100000 in
theorem count_out {B : Nat} {w : World} {p : Nat} {v : Value} {ps : List Nat} {hs : List (List S31)} {Ts : List Th} (h : Has B w (workL p v ps hs ++ Ts)) (i : Int) (hi : i < 0 ∨ (ps.length : Int) ≤ i) :
    Calls Try.prog 10 #[ptr p, .int .i64 i] w fun e w' => e = .returned (.int .i64 0) ∧ w = w' := by
  have HN := Aside0.mk (wnone_calls h)
  obtain ⟨q0, -, A, c, rfl, hc, hC⟩ := work_cells h
  clear hC h hc
  by_cases h0 : i < 0
  · have d0 : decide (i < 0) = true := decide_eq_true h0
    clear hi
    go_enter Try.func10, Try.ntmps10
    go_wp2_with (refine HN.out.mono ?_; rintro e w1 ⟨rfl, rfl⟩)
    go_ret
    exact ⟨rfl, rfl⟩
  · have h1 : (ps.length : Int) ≤ i := hi.resolve_left h0
    have d0 : decide (i < 0) = false := decide_eq_false h0
    have d1 : decide (i ≥ (ps.length : Int)) = true := decide_eq_true h1
    clear hi
    go_enter Try.func10, Try.ntmps10
    go_wp2_with (refine HN.out.mono ?_; rintro e w1 ⟨rfl, rfl⟩)
    go_ret
    exact ⟨rfl, rfl⟩
theorem set_same (hs : List (List S31)) (i : Nat) : hs.set i (hs.getD i []) = hs := by
  apply List.ext_getElem?
  intro j
  rw [List.getElem?_set]
  by_cases h : i = j
  · subst h
    by_cases h2 : i < hs.length
    · simp [h2, List.getD_eq_getElem?_getD]
    · simp [h2]
  · simp [h]
/-- A worker's turn: what is told, whether it was stolen, whether there is any; what is left. -/
def turnOwn (hs : List (List S31)) (i : Nat) (a : Int) : Bool := takeO (hs.getD i []) a
def turnOther (hs : List (List S31)) (i : Nat) (a : Int) : Bool := decide (mostF hs hs.length ≠ i) && takeO (hs.getD (mostF hs hs.length) []) a
def turnV (x : S31) (st ok : Bool) : Value := .tuple #[.agg #[.int .u32 x.f0, .int .i64 x.f1], .bool st, .bool ok]
def TurnPost (B : Nat) (w : World) (p : Nat) (v : Value) (ps : List Nat) (hs : List (List S31)) (Ts : List Th) (r : Value) (e : Ending) (w' : World) : Prop := e = .returned r ∧ Has B w' (workL p v ps hs ++ Ts) ∧ Below B w w'
set_option maxHeartbeats 4000000 in
set_option maxRecDepth 100000 in
theorem turn_own {B : Nat} {w : World} {p : Nat} {v : Value} {ps : List Nat} {hs : List (List S31)} {Ts : List Th} (h : Has B w (workL p v ps hs ++ Ts)) (hl : ps.length = hs.length) (i : Nat) (hi : i < ps.length) (a : Int) (hok : turnOwn hs i a = true) :
    Calls Try.prog 12 #[ptr p, .int .i64 (i : Int), .int .i64 a] w (TurnPost B w p v ps (hs.set i (takeS (hs.getD i []) a)) Ts (turnV (takeX (hs.getD i []) a) false true)) := by
  have hA0 : Has B (w.alloc (.cells #[.int .u32 0, .int .i64 0] 31)) (workL p v ps hs ++ (boxT w.heap.size #[.int .u32 0, .int .i64 0] 31 :: Ts)) := (h.box #[.int .u32 0, .int .i64 0] 31).perm List.perm_middle.symm
  have HB0 : Aside0 (Below B w (w.alloc (.cells #[.int .u32 0, .int .i64 0] 31))) := ⟨(Below.refl B w).alloc h.size _⟩
  have HN := Aside0.mk (wnone_calls hA0)
  obtain ⟨q0, -, A, c, rfl, hc, hC⟩ := work_cells hA0
  obtain ⟨ad, rfl, k0⟩ := at_P hC i hi
  obtain ⟨R, r1, r2⟩ := work_pick (boxT w.heap.size #[.int .u32 0, .int .i64 0] 31 :: Ts) hl i hi
  have HT := Aside0.mk (take_calls (r1 _ _ hA0) a)
  have HR2 := Aside0.mk (r2 (takeS (hs.getD i []) a))
  rw [show takeO (hs.getD i []) a = true from hok] at HT
  generalize ps[i] = q at k0 HT HR2
  obtain ⟨X, hX⟩ : ∃ X, X = takeX (hs.getD i []) a := ⟨_, rfl⟩
  rw [← hX] at HT ⊢
  obtain ⟨x0, x1⟩ := X
  have hi2 : (i : Int) < (ps.length : Int) := by omega
  have d1 : decide ((i : Int) ≥ (ps.length : Int)) = false := decide_eq_false (by omega)
  have hu := Try.underlying31
  clear hX hC h hc r1 r2 hA0 hok hl
  go_enter Try.func12, Try.ntmps12
  go_wp2_with fail
  generalize w.alloc (.cells #[.int .u32 0, .int .i64 0] 31) = w0 at HB0 HN HT q0 k0 ⊢
  generalize w.heap.size = b0 at HR2 ⊢
  refine HN.out.mono ?_
  rintro e w1 ⟨rfl, rfl⟩
  go_wp2_with fail
  refine HT.out.mono ?_
  rintro e w1 ⟨rfl, hA, hB⟩
  have HA1 := Aside0.mk ((HR2.out _ _ hA).perm List.perm_middle)
  have HB1 := Aside0.mk (HB0.out.trans hB)
  obtain ⟨q1, q2, q3, q4⟩ := Has.box_cell HA1.out (b := b0) (cs := #[.int .u32 0, .int .i64 0]) (t := 31) (by simp)
  have f0 := q2 0
  have f1 := q2 1
  have c0 : w1.cell? ⟨b0, 0, none⟩ = some (.int .u32 0) := q1 0
  have c1 : w1.cell? ⟨b0, 1, none⟩ = some (.int .i64 0) := q1 1
  clear q1 q2 q3 q4 hA hB HT HN HB0 q0 k0
  dsimp only [pairV, aggT]
  go_wp2_with fail
  obtain ⟨s1, t1⟩ := HA1.out.box_set 0 (.int .u32 x0)
  obtain ⟨s2, t2⟩ := s1.box_set 1 (.int .i64 x1)
  obtain ⟨s3, t3⟩ := s2.box_set 0 (.int .u32 x0)
  obtain ⟨s4, t4⟩ := s3.box_set 1 (.int .i64 x1)
  have r0 := (Has.box_cell s4 (b := b0) (t := 31) (cs := (((((#[.int .u32 0, .int .i64 0] : Array Value).setIfInBounds 0 (.int .u32 x0)).setIfInBounds 1 (.int .i64 x1)).setIfInBounds 0 (.int .u32 x0)).setIfInBounds 1 (.int .i64 x1))) (by simp)).1 0
  have r1 := (Has.box_cell s4 (b := b0) (t := 31) (cs := (((((#[.int .u32 0, .int .i64 0] : Array Value).setIfInBounds 0 (.int .u32 x0)).setIfInBounds 1 (.int .i64 x1)).setIfInBounds 0 (.int .u32 x0)).setIfInBounds 1 (.int .i64 x1))) (by simp)).1 1
  have HAG := Aside0.mk s4.tail
  have HBG := Aside0.mk (((t1.trans t2).trans t3).trans t4)
  clear s1 s2 s3 s4 t1 t2 t3 t4 f0 f1 c0 c1
  refine bodyPost_ret (v := .tuple #[.agg #[.int .u32 x0, .int .i64 x1], .bool false, .bool true]) (by simp [results, Try.results12, go_sem] at r0 r1 ⊢; simp [r0, r1, go_sem]) rfl ?_
  exact ⟨rfl, HAG.out, HB1.out.trans HBG.out⟩
set_option maxHeartbeats 4000000 in
set_option maxRecDepth 100000 in
theorem turn_other {B : Nat} {w : World} {p : Nat} {v : Value} {ps : List Nat} {hs : List (List S31)} {Ts : List Th} (h : Has B w (workL p v ps hs ++ Ts)) (hl : ps.length = hs.length) (i : Nat) (hi : i < ps.length) (a : Int) (hno : turnOwn hs i a = false) (hok : turnOther hs i a = true) :
    Calls Try.prog 12 #[ptr p, .int .i64 (i : Int), .int .i64 a] w (TurnPost B w p v ps (hs.set (mostF hs hs.length) (takeS (hs.getD (mostF hs hs.length) []) a)) Ts (turnV (takeX (hs.getD (mostF hs hs.length) []) a) true true)) := by
  have hA0 : Has B (w.alloc (.cells #[.int .u32 0, .int .i64 0] 31)) (workL p v ps hs ++ (boxT w.heap.size #[.int .u32 0, .int .i64 0] 31 :: Ts)) := (h.box #[.int .u32 0, .int .i64 0] 31).perm List.perm_middle.symm
  have HB0 : Aside0 (Below B w (w.alloc (.cells #[.int .u32 0, .int .i64 0] 31))) := ⟨(Below.refl B w).alloc h.size _⟩
  have HN := Aside0.mk (wnone_calls hA0)
  obtain ⟨q0, -, A, c, rfl, hc, hC⟩ := work_cells hA0
  obtain ⟨ad, rfl, k0⟩ := at_P hC i hi
  obtain ⟨R, r1, r2⟩ := work_pick (boxT w.heap.size #[.int .u32 0, .int .i64 0] 31 :: Ts) hl i hi
  have HT := Aside0.mk (take_calls (r1 _ _ hA0) a)
  have HR2 := Aside0.mk (r2 (hs.getD i []))
  rw [set_same] at HR2
  have hno' : takeO (hs.getD i []) a = false := hno
  rw [show takeX (hs.getD i []) a = z31 by unfold takeX; rw [hno']; rfl, hno', show takeS (hs.getD i []) a = hs.getD i [] by unfold takeS; rw [hno']; rfl] at HT
  generalize ps[i] = q at k0 HT HR2
  have hoks : mostF hs hs.length ≠ i ∧ takeO (hs.getD (mostF hs hs.length) []) a = true := by
    unfold turnOther at hok
    simpa using hok
  obtain ⟨m, hm⟩ : ∃ m, m = mostF hs hs.length := ⟨_, rfl⟩
  have hmp : m < ps.length := by have := mostF_lt hs hs.length; omega
  rw [← hm] at hoks ⊢
  have HM := Aside0.mk hm
  have HOK := Aside0.mk hoks
  have HL := Aside0.mk hl
  have hi2 : (i : Int) < (ps.length : Int) := by omega
  have d1 : decide ((i : Int) ≥ (ps.length : Int)) = false := decide_eq_false (by omega)
  have hu := Try.underlying31
  clear hC h hc r1 r2 hA0 hok hl hno hno' hm hoks
  go_enter Try.func12, Try.ntmps12
  go_wp2_with fail
  generalize w.alloc (.cells #[.int .u32 0, .int .i64 0] 31) = w0 at HB0 HN HT q0 k0 ⊢
  generalize w.heap.size = b0 at HR2 ⊢
  refine HN.out.mono ?_
  rintro e w1 ⟨rfl, rfl⟩
  go_wp2_with fail
  refine HT.out.mono ?_
  rintro e w1 ⟨rfl, hA, hB⟩
  have HA1 := Aside0.mk ((HR2.out _ _ hA).perm List.perm_middle)
  have HB1 := Aside0.mk (HB0.out.trans hB)
  obtain ⟨q1, q2, q3, q4⟩ := Has.box_cell HA1.out (b := b0) (cs := #[.int .u32 0, .int .i64 0]) (t := 31) (by simp)
  have f0 := q2 0
  have f1 := q2 1
  have c0 : w1.cell? ⟨b0, 0, none⟩ = some (.int .u32 0) := q1 0
  have c1 : w1.cell? ⟨b0, 1, none⟩ = some (.int .i64 0) := q1 1
  clear q1 q2 q3 q4 hA hB HT HN HB0 q0 k0
  rw [show pairV z31 false = .tuple #[.agg #[.int .u32 0, .int .i64 0], .bool false] from rfl]
  go_wp2_with fail
  obtain ⟨s1, t1⟩ := HA1.out.box_set 0 (.int .u32 0)
  obtain ⟨s2, t2⟩ := s1.box_set 1 (.int .i64 0)
  have HA2 : Aside0 (Has B ((w1.setCell ⟨b0, 0, none⟩ (.int .u32 0)).setCell ⟨b0, 1, none⟩ (.int .i64 0)) (workL p (.slice (some ad) ps.length c) ps hs ++ (boxT b0 #[.int .u32 0, .int .i64 0] 31 :: Ts))) := ⟨s2.perm List.perm_middle.symm⟩
  have HB2 := Aside0.mk (HB1.out.trans (t1.trans t2))
  clear s1 s2 t1 t2 HA1 HB1 f0 f1 c0 c1
  generalize (w1.setCell ⟨b0, 0, none⟩ (.int .u32 0)).setCell ⟨b0, 1, none⟩ (.int .i64 0) = w2 at HA2 HB2 ⊢
  have HMC : Aside0 (Calls Try.prog 37 #[ptr p] w2 fun e w' => e = .returned (.int .i64 (m : Int)) ∧ ∃ k, w' = w2.drewN k) := ⟨by rw [HM.out, ← HL.out]; exact most_calls HA2.out HL.out⟩
  refine HMC.out.mono ?_
  rintro e w3 ⟨rfl, k, rfl⟩
  have HA3 := Aside0.mk (HA2.out.drewN k)
  have HB3 := Aside0.mk (pw_below_drewN HB2.out k)
  clear HA2 HB2 HMC
  generalize w2.drewN k = w3 at HA3 HB3 ⊢
  obtain ⟨q0, -, A2, c2, ev, hc2, hC2⟩ := work_cells HA3.out
  cases ev
  obtain ⟨ad2, e2, k0⟩ := at_P hC2 m hmp
  cases e2
  obtain ⟨R2, r1, r2⟩ := work_pick (boxT b0 #[.int .u32 0, .int .i64 0] 31 :: Ts) HL.out m hmp
  have HT2 := Aside0.mk (take_calls (r1 _ _ HA3.out) a)
  have HR3 := Aside0.mk (r2 (takeS (hs.getD m []) a))
  rw [HOK.out.2] at HT2
  generalize ps[m] = qm at k0 HT2 HR3
  obtain ⟨X, hX⟩ : ∃ X, X = takeX (hs.getD m []) a := ⟨_, rfl⟩
  rw [← hX] at HT2
  obtain ⟨x0, x1⟩ := X
  have HX := Aside0.mk hX
  have hm2 : (m : Int) < (ps.length : Int) := by omega
  have g1 : ((m : Int) == (i : Int)) = false := beq_eq_false_iff_ne.2 (fun e => HOK.out.1 (by omega))
  have g2 : ((m : Int) != (i : Int)) = true := bne_iff_ne.2 (fun e => HOK.out.1 (by omega))
  clear hX hC2 hc2 r1 r2
  go_wp2_with fail
  refine HT2.out.mono ?_
  rintro e w4 ⟨rfl, hA, hB⟩
  have HA1 := Aside0.mk ((HR3.out _ _ hA).perm List.perm_middle)
  have HB1 := Aside0.mk (HB3.out.trans hB)
  obtain ⟨q1, q2, q3, q4⟩ := Has.box_cell HA1.out (b := b0) (cs := #[.int .u32 0, .int .i64 0]) (t := 31) (by simp)
  have f0 := q2 0
  have f1 := q2 1
  have c0 : w4.cell? ⟨b0, 0, none⟩ = some (.int .u32 0) := q1 0
  have c1 : w4.cell? ⟨b0, 1, none⟩ = some (.int .i64 0) := q1 1
  clear q1 q2 q3 q4 hA hB HT2 HB3 q0 k0 HA3
  dsimp only [pairV, aggT]
  go_wp2_with fail
  obtain ⟨s1, t1⟩ := HA1.out.box_set 0 (.int .u32 x0)
  obtain ⟨s2, t2⟩ := s1.box_set 1 (.int .i64 x1)
  obtain ⟨s3, t3⟩ := s2.box_set 0 (.int .u32 x0)
  obtain ⟨s4, t4⟩ := s3.box_set 1 (.int .i64 x1)
  have r0 := (Has.box_cell s4 (b := b0) (t := 31) (cs := (((((#[.int .u32 0, .int .i64 0] : Array Value).setIfInBounds 0 (.int .u32 x0)).setIfInBounds 1 (.int .i64 x1)).setIfInBounds 0 (.int .u32 x0)).setIfInBounds 1 (.int .i64 x1))) (by simp)).1 0
  have r1 := (Has.box_cell s4 (b := b0) (t := 31) (cs := (((((#[.int .u32 0, .int .i64 0] : Array Value).setIfInBounds 0 (.int .u32 x0)).setIfInBounds 1 (.int .i64 x1)).setIfInBounds 0 (.int .u32 x0)).setIfInBounds 1 (.int .i64 x1))) (by simp)).1 1
  have HAG := Aside0.mk s4.tail
  have HBG := Aside0.mk (((t1.trans t2).trans t3).trans t4)
  clear s1 s2 s3 s4 t1 t2 t3 t4 f0 f1 c0 c1
  refine bodyPost_ret (v := .tuple #[.agg #[.int .u32 x0, .int .i64 x1], .bool true, .bool true]) (by simp [results, Try.results12, go_sem] at r0 r1 ⊢; simp [r0, r1, go_sem]) rfl ?_
  exact ⟨by rw [show takeX (hs.getD m []) a = (⟨x0, x1⟩ : S31) from HX.out.symm]; rfl, HAG.out, HB1.out.trans HBG.out⟩
set_option maxHeartbeats 4000000 in
set_option maxRecDepth 100000 in
theorem turn_out {B : Nat} {w : World} {p : Nat} {v : Value} {ps : List Nat} {hs : List (List S31)} {Ts : List Th} (h : Has B w (workL p v ps hs ++ Ts)) (i : Int) (hi : i < 0 ∨ (ps.length : Int) ≤ i) (a : Int) :
    Calls Try.prog 12 #[ptr p, .int .i64 i, .int .i64 a] w (TurnPost B w p v ps hs Ts (turnV z31 false false)) := by
  have hA0 : Has B (w.alloc (.cells #[.int .u32 0, .int .i64 0] 31)) (workL p v ps hs ++ (boxT w.heap.size #[.int .u32 0, .int .i64 0] 31 :: Ts)) := (h.box #[.int .u32 0, .int .i64 0] 31).perm List.perm_middle.symm
  have HB0 : Aside0 (Below B w (w.alloc (.cells #[.int .u32 0, .int .i64 0] 31))) := ⟨(Below.refl B w).alloc h.size _⟩
  have HN := Aside0.mk (wnone_calls hA0)
  obtain ⟨q0, -, A, c, rfl, hc, hC⟩ := work_cells hA0
  have HA1 := Aside0.mk (hA0.perm List.perm_middle)
  obtain ⟨q1, q2, q3, q4⟩ := Has.box_cell HA1.out (b := w.heap.size) (cs := #[.int .u32 0, .int .i64 0]) (t := 31) (by simp)
  have f0 := q2 0
  have f1 := q2 1
  have c0 : (w.alloc (.cells #[.int .u32 0, .int .i64 0] 31)).cell? ⟨w.heap.size, 0, none⟩ = some (.int .u32 0) := q1 0
  have c1 : (w.alloc (.cells #[.int .u32 0, .int .i64 0] 31)).cell? ⟨w.heap.size, 1, none⟩ = some (.int .i64 0) := q1 1
  clear q1 q2 q3 q4 hA0 h hc hC
  have hu := Try.underlying31
  by_cases h0 : i < 0
  · have d0 : decide (i < 0) = true := decide_eq_true h0
    clear hi
    go_enter Try.func12, Try.ntmps12
    go_wp2_with fail
    generalize w.alloc (.cells #[.int .u32 0, .int .i64 0] 31) = w0 at HA1 HB0 HN q0 f0 f1 c0 c1 ⊢
    generalize w.heap.size = b0 at HA1 f0 f1 c0 c1 ⊢
    refine HN.out.mono ?_
    rintro e w1 ⟨rfl, rfl⟩
    go_wp2_with fail
    obtain ⟨s1, t1⟩ := HA1.out.box_set 0 (.int .u32 0)
    obtain ⟨s2, t2⟩ := s1.box_set 1 (.int .i64 0)
    have r0 := (Has.box_cell s2 (b := b0) (t := 31) (cs := (((#[.int .u32 0, .int .i64 0] : Array Value).setIfInBounds 0 (.int .u32 0)).setIfInBounds 1 (.int .i64 0))) (by simp)).1 0
    have r1 := (Has.box_cell s2 (b := b0) (t := 31) (cs := (((#[.int .u32 0, .int .i64 0] : Array Value).setIfInBounds 0 (.int .u32 0)).setIfInBounds 1 (.int .i64 0))) (by simp)).1 1
    have HAG := Aside0.mk s2.tail
    have HBG := Aside0.mk (t1.trans t2)
    clear s1 s2 t1 t2 f0 f1 c0 c1
    refine bodyPost_ret (v := .tuple #[.agg #[.int .u32 0, .int .i64 0], .bool false, .bool false]) (by simp [results, Try.results12, go_sem] at r0 r1 ⊢; simp [r0, r1, go_sem]) rfl ?_
    exact ⟨rfl, HAG.out, HB0.out.trans HBG.out⟩
  · have h1 : (ps.length : Int) ≤ i := hi.resolve_left h0
    have d0 : decide (i < 0) = false := decide_eq_false h0
    have d1 : decide (i ≥ (ps.length : Int)) = true := decide_eq_true h1
    clear hi
    go_enter Try.func12, Try.ntmps12
    go_wp2_with fail
    generalize w.alloc (.cells #[.int .u32 0, .int .i64 0] 31) = w0 at HA1 HB0 HN q0 f0 f1 c0 c1 ⊢
    generalize w.heap.size = b0 at HA1 f0 f1 c0 c1 ⊢
    refine HN.out.mono ?_
    rintro e w1 ⟨rfl, rfl⟩
    go_wp2_with fail
    obtain ⟨s1, t1⟩ := HA1.out.box_set 0 (.int .u32 0)
    obtain ⟨s2, t2⟩ := s1.box_set 1 (.int .i64 0)
    have r0 := (Has.box_cell s2 (b := b0) (t := 31) (cs := (((#[.int .u32 0, .int .i64 0] : Array Value).setIfInBounds 0 (.int .u32 0)).setIfInBounds 1 (.int .i64 0))) (by simp)).1 0
    have r1 := (Has.box_cell s2 (b := b0) (t := 31) (cs := (((#[.int .u32 0, .int .i64 0] : Array Value).setIfInBounds 0 (.int .u32 0)).setIfInBounds 1 (.int .i64 0))) (by simp)).1 1
    have HAG := Aside0.mk s2.tail
    have HBG := Aside0.mk (t1.trans t2)
    clear s1 s2 t1 t2 f0 f1 c0 c1
    refine bodyPost_ret (v := .tuple #[.agg #[.int .u32 0, .int .i64 0], .bool false, .bool false]) (by simp [results, Try.results12, go_sem] at r0 r1 ⊢; simp [r0, r1, go_sem]) rfl ?_
    exact ⟨rfl, HAG.out, HB0.out.trans HBG.out⟩
set_option maxHeartbeats 4000000 in
set_option maxRecDepth 100000 in
theorem turn_none {B : Nat} {w : World} {p : Nat} {v : Value} {ps : List Nat} {hs : List (List S31)} {Ts : List Th} (h : Has B w (workL p v ps hs ++ Ts)) (hl : ps.length = hs.length) (i : Nat) (hi : i < ps.length) (a : Int) (hno : turnOwn hs i a = false) (hok : turnOther hs i a = false) :
    Calls Try.prog 12 #[ptr p, .int .i64 (i : Int), .int .i64 a] w (TurnPost B w p v ps hs Ts (turnV z31 false false)) := by
  have hA0 : Has B (w.alloc (.cells #[.int .u32 0, .int .i64 0] 31)) (workL p v ps hs ++ (boxT w.heap.size #[.int .u32 0, .int .i64 0] 31 :: Ts)) := (h.box #[.int .u32 0, .int .i64 0] 31).perm List.perm_middle.symm
  have HB0 : Aside0 (Below B w (w.alloc (.cells #[.int .u32 0, .int .i64 0] 31))) := ⟨(Below.refl B w).alloc h.size _⟩
  have HN := Aside0.mk (wnone_calls hA0)
  obtain ⟨q0, -, A, c, rfl, hc, hC⟩ := work_cells hA0
  obtain ⟨ad, rfl, k0⟩ := at_P hC i hi
  obtain ⟨R, r1, r2⟩ := work_pick (boxT w.heap.size #[.int .u32 0, .int .i64 0] 31 :: Ts) hl i hi
  have HT := Aside0.mk (take_calls (r1 _ _ hA0) a)
  have HR2 := Aside0.mk (r2 (hs.getD i []))
  rw [set_same] at HR2
  have hno' : takeO (hs.getD i []) a = false := hno
  rw [show takeX (hs.getD i []) a = z31 by unfold takeX; rw [hno']; rfl, hno', show takeS (hs.getD i []) a = hs.getD i [] by unfold takeS; rw [hno']; rfl] at HT
  generalize ps[i] = q at k0 HT HR2
  have hoks : mostF hs hs.length ≠ i → takeO (hs.getD (mostF hs hs.length) []) a = false := by
    unfold turnOther at hok
    simpa using hok
  obtain ⟨m, hm⟩ : ∃ m, m = mostF hs hs.length := ⟨_, rfl⟩
  have hmp : m < ps.length := by have := mostF_lt hs hs.length; omega
  rw [← hm] at hoks
  have HM := Aside0.mk hm
  have HOK := Aside0.mk hoks
  have HL := Aside0.mk hl
  have hi2 : (i : Int) < (ps.length : Int) := by omega
  have d1 : decide ((i : Int) ≥ (ps.length : Int)) = false := decide_eq_false (by omega)
  have hu := Try.underlying31
  clear hC h hc r1 r2 hA0 hok hl hno hno' hm hoks
  go_enter Try.func12, Try.ntmps12
  go_wp2_with fail
  generalize w.alloc (.cells #[.int .u32 0, .int .i64 0] 31) = w0 at HB0 HN HT q0 k0 ⊢
  generalize w.heap.size = b0 at HR2 ⊢
  refine HN.out.mono ?_
  rintro e w1 ⟨rfl, rfl⟩
  go_wp2_with fail
  refine HT.out.mono ?_
  rintro e w1 ⟨rfl, hA, hB⟩
  have HA1 := Aside0.mk ((HR2.out _ _ hA).perm List.perm_middle)
  have HB1 := Aside0.mk (HB0.out.trans hB)
  obtain ⟨q1, q2, q3, q4⟩ := Has.box_cell HA1.out (b := b0) (cs := #[.int .u32 0, .int .i64 0]) (t := 31) (by simp)
  have f0 := q2 0
  have f1 := q2 1
  have c0 : w1.cell? ⟨b0, 0, none⟩ = some (.int .u32 0) := q1 0
  have c1 : w1.cell? ⟨b0, 1, none⟩ = some (.int .i64 0) := q1 1
  clear q1 q2 q3 q4 hA hB HT HN HB0 q0 k0
  rw [show pairV z31 false = .tuple #[.agg #[.int .u32 0, .int .i64 0], .bool false] from rfl]
  go_wp2_with fail
  obtain ⟨s1, t1⟩ := HA1.out.box_set 0 (.int .u32 0)
  obtain ⟨s2, t2⟩ := s1.box_set 1 (.int .i64 0)
  have HA2 : Aside0 (Has B ((w1.setCell ⟨b0, 0, none⟩ (.int .u32 0)).setCell ⟨b0, 1, none⟩ (.int .i64 0)) (workL p (.slice (some ad) ps.length c) ps hs ++ (boxT b0 #[.int .u32 0, .int .i64 0] 31 :: Ts))) := ⟨s2.perm List.perm_middle.symm⟩
  have HB2 := Aside0.mk (HB1.out.trans (t1.trans t2))
  clear s1 s2 t1 t2 HA1 HB1 f0 f1 c0 c1
  generalize (w1.setCell ⟨b0, 0, none⟩ (.int .u32 0)).setCell ⟨b0, 1, none⟩ (.int .i64 0) = w2 at HA2 HB2 ⊢
  have HMC : Aside0 (Calls Try.prog 37 #[ptr p] w2 fun e w' => e = .returned (.int .i64 (m : Int)) ∧ ∃ k, w' = w2.drewN k) := ⟨by rw [HM.out, ← HL.out]; exact most_calls HA2.out HL.out⟩
  refine HMC.out.mono ?_
  rintro e w3 ⟨rfl, k, rfl⟩
  have HA3 := Aside0.mk (HA2.out.drewN k)
  have HB3 := Aside0.mk (pw_below_drewN HB2.out k)
  clear HA2 HB2 HMC
  generalize w2.drewN k = w3 at HA3 HB3 ⊢
  by_cases hmi : m = i
  · have g1 : ((m : Int) == (i : Int)) = true := beq_iff_eq.2 (by omega)
    have g2 : ((m : Int) != (i : Int)) = false := by rw [hmi]; simp
    have HA1 := Aside0.mk (HA3.out.perm List.perm_middle)
    have HB1 := HB3
    obtain ⟨q1, q2, q3, q4⟩ := Has.box_cell HA1.out (b := b0) (cs := #[.int .u32 0, .int .i64 0]) (t := 31) (by simp)
    have f0 := q2 0
    have f1 := q2 1
    have c0 : w3.cell? ⟨b0, 0, none⟩ = some (.int .u32 0) := q1 0
    have c1 : w3.cell? ⟨b0, 1, none⟩ = some (.int .i64 0) := q1 1
    clear q1 q2 q3 q4 HA3 HB3 hmi
    go_wp2_with fail
    obtain ⟨s1, t1⟩ := HA1.out.box_set 0 (.int .u32 0)
    obtain ⟨s2, t2⟩ := s1.box_set 1 (.int .i64 0)
    have r0 := (Has.box_cell s2 (b := b0) (t := 31) (cs := (((#[.int .u32 0, .int .i64 0] : Array Value).setIfInBounds 0 (.int .u32 0)).setIfInBounds 1 (.int .i64 0))) (by simp)).1 0
    have r1 := (Has.box_cell s2 (b := b0) (t := 31) (cs := (((#[.int .u32 0, .int .i64 0] : Array Value).setIfInBounds 0 (.int .u32 0)).setIfInBounds 1 (.int .i64 0))) (by simp)).1 1
    have HAG := Aside0.mk s2.tail
    have HBG := Aside0.mk (t1.trans t2)
    clear f0 f1 c0 c1
    refine bodyPost_ret (v := .tuple #[.agg #[.int .u32 0, .int .i64 0], .bool false, .bool false]) (by simp [results, Try.results12, go_sem] at r0 r1 ⊢; simp [r0, r1, go_sem]) rfl ?_
    exact ⟨rfl, HAG.out, HB1.out.trans HBG.out⟩
  · have hto := HOK.out hmi
    obtain ⟨q0, -, A2, c2, ev, hc2, hC2⟩ := work_cells HA3.out
    cases ev
    obtain ⟨ad2, e2, k0⟩ := at_P hC2 m hmp
    cases e2
    obtain ⟨R2, r1, r2⟩ := work_pick (boxT b0 #[.int .u32 0, .int .i64 0] 31 :: Ts) HL.out m hmp
    have HT2 := Aside0.mk (take_calls (r1 _ _ HA3.out) a)
    have HR3 := Aside0.mk (r2 (hs.getD m []))
    rw [set_same] at HR3
    rw [show takeX (hs.getD m []) a = z31 by unfold takeX; rw [hto]; rfl, hto, show takeS (hs.getD m []) a = hs.getD m [] by unfold takeS; rw [hto]; rfl] at HT2
    generalize ps[m] = qm at k0 HT2 HR3
    have hm2 : (m : Int) < (ps.length : Int) := by omega
    have g1 : ((m : Int) == (i : Int)) = false := beq_eq_false_iff_ne.2 (fun e => hmi (by omega))
    have g2 : ((m : Int) != (i : Int)) = true := bne_iff_ne.2 (fun e => hmi (by omega))
    clear hC2 hc2 r1 r2 hto hmi
    go_wp2_with fail
    refine HT2.out.mono ?_
    rintro e w4 ⟨rfl, hA, hB⟩
    have HA1 := Aside0.mk ((HR3.out _ _ hA).perm List.perm_middle)
    have HB1 := Aside0.mk (HB3.out.trans hB)
    obtain ⟨q1, q2, q3, q4⟩ := Has.box_cell HA1.out (b := b0) (cs := #[.int .u32 0, .int .i64 0]) (t := 31) (by simp)
    have f0 := q2 0
    have f1 := q2 1
    have c0 : w4.cell? ⟨b0, 0, none⟩ = some (.int .u32 0) := q1 0
    have c1 : w4.cell? ⟨b0, 1, none⟩ = some (.int .i64 0) := q1 1
    clear q1 q2 q3 q4 hA hB HT2 HB3 q0 k0 HA3
    rw [show pairV z31 false = .tuple #[.agg #[.int .u32 0, .int .i64 0], .bool false] from rfl]
    go_wp2_with fail
    obtain ⟨s1, t1⟩ := HA1.out.box_set 0 (.int .u32 0)
    obtain ⟨s2, t2⟩ := s1.box_set 1 (.int .i64 0)
    obtain ⟨s3, t3⟩ := s2.box_set 0 (.int .u32 0)
    obtain ⟨s4, t4⟩ := s3.box_set 1 (.int .i64 0)
    have r0 := (Has.box_cell s4 (b := b0) (t := 31) (cs := (((((#[.int .u32 0, .int .i64 0] : Array Value).setIfInBounds 0 (.int .u32 0)).setIfInBounds 1 (.int .i64 0)).setIfInBounds 0 (.int .u32 0)).setIfInBounds 1 (.int .i64 0))) (by simp)).1 0
    have r1 := (Has.box_cell s4 (b := b0) (t := 31) (cs := (((((#[.int .u32 0, .int .i64 0] : Array Value).setIfInBounds 0 (.int .u32 0)).setIfInBounds 1 (.int .i64 0)).setIfInBounds 0 (.int .u32 0)).setIfInBounds 1 (.int .i64 0))) (by simp)).1 1
    have HAG := Aside0.mk s4.tail
    have HBG := Aside0.mk (((t1.trans t2).trans t3).trans t4)
    clear f0 f1 c0 c1
    refine bodyPost_ret (v := .tuple #[.agg #[.int .u32 0, .int .i64 0], .bool false, .bool false]) (by simp [results, Try.results12, go_sem] at r0 r1 ⊢; simp [r0, r1, go_sem]) rfl ?_
    exact ⟨rfl, HAG.out, HB1.out.trans HBG.out⟩
end Go.Proofs.Ytpnoghnhlddjeaa.Wk
