/- The document's workers: a list of tasks, the earliest first: walked, and told in plain words. -/
import Derived.Test.YtpnoghnhlddjeaaWorkP
import Derived.Test.YtpnoghnhlddjeaaQ8
import Derived.Test.YtpnoghnhlddjeaaQ9
namespace Go.Proofs.Ytpnoghnhlddjeaa.Wk
open Go.RowKit Go.Proofs.YtpnoghnhlddjeaaW.PrintWords Go.Proofs.YtpnoghnhlddjeaaW.PrintLast Go.Proofs.YtpnoghnhlddjeaaW.PrintMore Go.Proofs.Ytpnoghnhlddjeaa.Q Go.Proofs.Ytpnoghnhlddjeaa.Own Go.Proofs.Ytpnoghnhlddjeaa.Hp
set_option linter.unusedVariables false
set_option linter.unusedSimpArgs false
attribute [local go_sem ↓] Go.wp_at_zero Go.wp_at_succ

abbrev rowK (u : Value) (th : List S31) : Th := rowT k31 31 u th
/-- The document's workers, as things: the pair, the row of tasks. -/
def refL (g : Nat) (v : Value) (n : Nat) (L : List S31) : List Th := [boxT g #[.int .i64 (n : Int), v] 51, rowK v L]
theorem ref_cells {B : Nat} {w : World} {g n : Nat} {v : Value} {L : List S31} {Ts : List Th} (h : Has B w (refL g v n L ++ Ts)) :
    w.cell? ⟨g, 0, none⟩ = some (.int .i64 (n : Int)) ∧ w.cell? ⟨g, 1, none⟩ = some v ∧ w.frozen? ⟨g, 1, none⟩ = false ∧ ∃ A c, v = .slice A L.length c ∧ L.length ≤ c ∧ Kd.C k31 w A L.length L := by
  obtain ⟨q1, q2, -, -⟩ := Has.box_cell h (b := g) (cs := #[.int .i64 (n : Int), v]) (t := 51) (by simp [refL])
  exact ⟨q1 0, q1 1, q2 1, h.reads (d := k31) (e := 31) (v := v) (xs := L) (by simp [refL])⟩
/-- Another row of tasks. -/
theorem ref_turn {B : Nat} {w : World} {g n : Nat} {v v' : Value} {L L' : List S31} {Ts : List Th} (h : Has B w (refL g v n L ++ (rowK v' L' :: Ts))) : Has B (w.setCell ⟨g, 1, none⟩ v') (refL g v' n L' ++ Ts) ∧ Below B w (w.setCell ⟨g, 1, none⟩ v') := by
  obtain ⟨h1, h2⟩ := Has.box_set h 1 v'
  exact ⟨h1.swap.tail, h2⟩
theorem row_grown {α : Type} {d : Kd α} {e : Nat} {B : Nat} {W w1 : World} {Ts : List Th} {ys : List α} {F : Nat → Prop} {v v1 : Value} (hFb : ∀ k, F k → B ≤ k ∧ k < W.heap.size)
    (put : ∀ (w' : World) (F' : Nat → Prop) (T' : Th), KeepF F W w' → T'.on w' F' → (∀ k, F' k → (F k ∨ W.heap.size ≤ k) ∧ k < w'.heap.size) → Has B w' (T' :: Ts) ∧ Below B W w')
    (hv : ∀ k, v.ownBlock = some k → F k) (hg : W.grownBy w1 v.ownBlock) (hr : d.R e w1 0 (fun k => F k ∨ W.heap.size ≤ k) v1 ys) : Has B w1 (rowT d e v1 ys :: Ts) ∧ Below B W w1 :=
  put w1 (fun k => (F k ∨ W.heap.size ≤ k) ∧ k < w1.heap.size) (rowT d e v1 ys) (KeepF.grown (KeepF.refl F W) hg fun k e => .inl (hv k e)) (Kd.R_mono (Kd.R_bound hr) fun k hk => ⟨hk.1, hk.2.2.1⟩) (fun k hk => hk)
theorem rnew_bad (n : Int) (h : n < 1 ∨ 4 < n) (w : World) : Calls Try.prog 15 #[.int .i64 n] w fun e w' => e = .returned (.tuple #[.pointer none, .int .i64 2]) ∧ w = w' := by
  by_cases h1 : n < 1
  · have d1 : decide (n < 1) = true := decide_eq_true h1
    clear h
    go_enter Try.func15, Try.ntmps15
    go_wp2
    refine bodyPost_ret (v := .tuple #[.pointer none, .int .i64 2]) (by simp [results, Try.results15, go_sem]) rfl ?_
    exact ⟨rfl, rfl⟩
  · have h2 : n > 4 := h.resolve_left h1
    have d1 : decide (n < 1) = false := decide_eq_false h1
    have d2 : decide (n > 4) = true := decide_eq_true h2
    clear h
    go_enter Try.func15, Try.ntmps15
    go_wp2
    refine bodyPost_ret (v := .tuple #[.pointer none, .int .i64 2]) (by simp [results, Try.results15, go_sem]) rfl ?_
    exact ⟨rfl, rfl⟩
theorem rnew_good (n : Nat) (h1 : 1 ≤ n) (h4 : n ≤ 4) {B : Nat} {w : World} {Ts : List Th} (h : Has B w Ts) : Calls Try.prog 15 #[.int .i64 (n : Int)] w fun e w' => ∃ g, e = .returned (.tuple #[ptr g, .int .i64 0]) ∧ Has B w' (refL g (.slice none 0 0) n [] ++ Ts) ∧ Below B w w' := by
  have H0 : Aside0 (Has B (w.alloc (.cells #[.int .i64 (n : Int), .slice none 0 0] 51)) (refL w.heap.size (.slice none 0 0) n [] ++ Ts)) := ⟨by
    have a := h.box #[.int .i64 (n : Int), .slice none 0 0] 51
    obtain ⟨a0, F, aF, b, c⟩ := a
    exact ⟨a0, F, aF, b, ⟨fun _ => False, Kd.R_nil _ _ _ _ _, fun k hk => hk.elim, c.grow fun k hk _ => ⟨hk, fun f => f⟩⟩⟩⟩
  have HB0 : Aside0 (Below B w (w.alloc (.cells #[.int .i64 (n : Int), .slice none 0 0] 51))) := ⟨(Below.refl _ w).alloc h.size _⟩
  have hu := Try.underlying51
  have d1 : decide ((n : Int) < 1) = false := decide_eq_false (by omega)
  have d2 : decide ((n : Int) > 4) = false := decide_eq_false (by omega)
  clear h
  go_enter Try.func15, Try.ntmps15
  go_wp2_with fail
  refine bodyPost_ret (v := .tuple #[ptr w.heap.size, .int .i64 0]) (by simp [results, Try.results15, go_sem]) rfl ?_
  exact ⟨_, rfl, H0.out, HB0.out⟩
theorem home_tmod {r : Int} (hr0 : 0 ≤ r) (n : Nat) : r.tmod (n : Int) = ((homeOf r n : Nat) : Int) := by
  unfold homeOf
  rw [Int.tmod_eq_emod_of_nonneg hr0, Int.natCast_emod, Int.toNat_of_nonneg hr0]
set_option maxRecDepth 100000 in
theorem rhome_calls {w : World} {g n : Nat} (q0 : w.cell? ⟨g, 0, none⟩ = some (.int .i64 (n : Int))) (hn : 0 < n) (r : Int) (hr0 : 0 ≤ r) (hr1 : r ≤ 4294967295) :
    Calls Try.prog 41 #[ptr g, .int .u32 r] w fun e w' => e = .returned (.int .i64 ((homeOf r n : Nat) : Int)) ∧ w = w' := by
  have e1 := home_tmod hr0 n
  have hne : ((n : Int) == 0) = false := beq_eq_false_iff_ne.2 (by omega)
  have hne2 : ¬ (n : Int) = 0 := by omega
  have hw : wrap64 r = r := by unfold wrap64; omega
  generalize homeOf r n = m at e1 ⊢
  go_enter Try.func41, Try.ntmps41
  go_wp2
  go_ret
  exact ⟨rfl, rfl⟩
/-- How many tasks have a worker as their home. -/
def rcnt (L : List S31) (n : Nat) (i : Int) : Nat := L.countP fun x => decide (((homeOf x.f0 n : Nat) : Int) = i)
theorem rcnt_take {L : List S31} {n : Nat} {i : Int} {k : Nat} (hk : k < L.length) : rcnt (L.take (k + 1)) n i = rcnt (L.take k) n i + if ((homeOf (rd_T31 L (k : Int)).f0 n : Nat) : Int) = i then 1 else 0 := by
  unfold rcnt
  rw [List.take_succ_eq_append_getElem hk, List.countP_append, rd_nat L hk, List.countP_singleton]
  congr 1
  by_cases e : ((homeOf L[k].f0 n : Nat) : Int) = i <;> simp [e]
set_option maxHeartbeats 2000000 in
set_option maxRecDepth 100000 in
theorem rcount_calls {B : Nat} {w : World} {g n : Nat} {v : Value} {L : List S31} {Ts : List Th} (h : Has B w (refL g v n L ++ Ts)) (hn : 0 < n) (hg : ∀ x ∈ L, GoodT x) (hm : L.length ≤ 1000000) (i : Int) :
    Calls Try.prog 21 #[ptr g, .int .i64 i] w fun e w' => e = .returned (.int .i64 (rcnt L n i : Int)) ∧ w = w' := by
  obtain ⟨q0, q1, -, A, c, rfl, hc, hC⟩ := ref_cells h
  have HC := Aside0.mk hC
  have HG := Aside0.mk hg
  clear hC hg h hc
  have hw : Aside0 (w = w) := ⟨rfl⟩
  go_enter Try.func21, Try.ntmps21
  go_wp2_with fail
  go_loopw [6, 5] (fun i1 i2 wr => ∃ (k m : Nat), i1 = .int .i64 k ∧ i2 = .int .i64 m ∧ k ≤ L.length ∧ m ≤ k ∧ Aside0 (m = rcnt (L.take k) n i) ∧ Aside0 (wr = w)) (fun i _ _ => L.length - (intOf i).toNat)
  case atStart => exact ⟨0, 0, rfl, rfl, by omega, by omega, ⟨rfl⟩, ⟨by first | rfl | trivial⟩⟩
  case round =>
    obtain ⟨k, m, rfl, rfl, hk, hmk, HM, ⟨hwr⟩⟩ := hrel
    subst hwr
    by_cases hlt : k < L.length
    · have d1 : decide ((k : Int) < (L.length : Int)) = true := decide_eq_true (by omega)
      have d2 : decide (0 ≤ (k : Int)) = true := decide_eq_true (by omega)
      have d3 : (k : Int) < (L.length : Int) := by omega
      obtain ⟨ad, rfl, hi2, hi3⟩ := at_T31 HC.out (k : Int) (by omega) (by omega)
      rw [Int.toNat_natCast] at hi2 hi3
      have hxg : GoodT (rd_T31 L (k : Int)) := HG.out _ (rd_mem hlt)
      have HT := Aside0.mk (rcnt_take (L := L) (n := n) (i := i) hlt)
      generalize rd_T31 L (k : Int) = x at hi2 hi3 hxg HT
      have HH := Aside0.mk (rhome_calls q0 hn x.f0 hxg.1 hxg.2)
      clear hxg hi3
      by_cases e : ((homeOf x.f0 n : Nat) : Int) = i
      · have HM2 : Aside0 (m + 1 = rcnt (L.take (k + 1)) n i) := ⟨by rw [HT.out, if_pos e, HM.out]⟩
        have e1 : (((homeOf x.f0 n : Nat) : Int) == i) = true := beq_iff_eq.2 e
        clear HT e
        generalize homeOf x.f0 n = hx at HH e1
        go_wp2_with fail
        refine HH.out.mono ?_
        rintro e w3 ⟨rfl, rfl⟩
        go_wp2_with fail
        go_roundw
        case rel => exact ⟨k + 1, m + 1, rfl, rfl, by omega, by omega, HM2, ⟨by first | rfl | trivial⟩⟩
        case measure => simp [intOf]; omega
      · have HM2 : Aside0 (m = rcnt (L.take (k + 1)) n i) := ⟨by rw [HT.out, if_neg e, HM.out]; rfl⟩
        have e1 : (((homeOf x.f0 n : Nat) : Int) == i) = false := beq_eq_false_iff_ne.2 e
        clear HT e
        generalize homeOf x.f0 n = hx at HH e1
        go_wp2_with fail
        refine HH.out.mono ?_
        rintro e w3 ⟨rfl, rfl⟩
        go_wp2_with fail
        go_roundw
        case rel => exact ⟨k + 1, m, rfl, rfl, by omega, by omega, HM2, ⟨by first | rfl | trivial⟩⟩
        case measure => simp [intOf]; omega
    · have d1 : decide ((k : Int) < (L.length : Int)) = false := decide_eq_false (by omega)
      go_wp2_with fail
      go_ret
      refine ⟨?_, by first | rfl | trivial⟩
      rw [HM.out, List.take_of_length_le (by omega)]
      rfl
def RefPost (B : Nat) (w : World) (g n : Nat) (L : List S31) (Ts : List Th) (r : Value) (e : Ending) (w' : World) : Prop := ∃ v', e = .returned r ∧ Has B w' (refL g v' n L ++ Ts) ∧ Below B w w'
theorem without_take {L : List S31} {r : Int} {k : Nat} (hk : k < L.length) : withoutL (L.take (k + 1)) r = withoutL (L.take k) r ++ if (rd_T31 L (k : Int)).f0 = r then [] else [rd_T31 L (k : Int)] := by
  unfold withoutL
  rw [List.take_succ_eq_append_getElem hk, List.filter_append, rd_nat L hk]
  congr 1
  by_cases e : L[k].f0 = r <;> simp [e]
set_option maxHeartbeats 4000000 in
set_option maxRecDepth 100000 in
theorem rdrop_calls {B : Nat} {w : World} {g n : Nat} {v : Value} {L : List S31} {Ts : List Th} (h : Has B w (refL g v n L ++ Ts)) (hm : L.length ≤ 1000000) (r : Int) :
    Calls Try.prog 18 #[ptr g, .int .u32 r] w (RefPost B w g n (withoutL L r) Ts (.bool (decide ((withoutL L r).length < L.length)))) := by
  have H0 : Aside0 (Has B w (refL g v n L ++ (rowK (.slice none 0 0) (withoutL (L.take 0) r) :: Ts))) := ⟨tail_box (h.row (Below.refl _ _) (Kd.R_nil _ _ _ _ _))⟩
  have HB0 : Aside0 (Below B w w) := ⟨Below.refl _ _⟩
  have hu := Try.underlying31
  clear h
  go_enter Try.func18, Try.ntmps18
  go_wp2_with fail
  go_loopw [6, 5] (fun i o wr => ∃ (k : Nat) (u : Value), i = .int .i64 k ∧ u = o ∧ k ≤ L.length ∧ Aside0 (Has B wr (refL g v n L ++ (rowK u (withoutL (L.take k) r) :: Ts))) ∧ Aside0 (Below B w wr)) (fun i _ _ => L.length - (intOf i).toNat)
  case atStart => exact ⟨0, _, rfl, rfl, by omega, H0, HB0⟩
  case round =>
    clear H0 HB0
    obtain ⟨k, u, rfl, rfl, hk, HA, HB⟩ := hrel
    obtain ⟨q0, q1, f1, A, c, rfl, hc, hC⟩ := ref_cells HA.out
    by_cases hlt : k < L.length
    · have d1 : decide ((k : Int) < (L.length : Int)) = true := decide_eq_true (by omega)
      have d2 : decide (0 ≤ (k : Int)) = true := decide_eq_true (by omega)
      have d3 : (k : Int) < (L.length : Int) := by omega
      obtain ⟨ad, rfl, hi2, hi3⟩ := at_T31 hC (k : Int) (by omega) (by omega)
      rw [Int.toNat_natCast] at hi2 hi3
      have HT := Aside0.mk (without_take (L := L) (r := r) hlt)
      have hwl : (withoutL (L.take k) r).length ≤ 1000000 := by
        have h1 := List.length_filter_le (fun x : S31 => x.f0 != r) (L.take k)
        have h2 : (L.take k).length ≤ L.length := by rw [List.length_take]; omega
        exact Nat.le_trans h1 (Nat.le_trans h2 hm)
      have HWL := Aside0.mk hwl
      generalize rd_T31 L (k : Int) = x at hi2 hi3 HT
      obtain ⟨x0, x1⟩ := x
      dsimp only at hi2 hi3 HT
      clear hC hc hwl
      by_cases e : x0 = r
      · have e1 : (x0 == r) = true := beq_iff_eq.2 e
        have e2 : (x0 != r) = false := by rw [bne, e1]; rfl
        rw [if_pos e, List.append_nil] at HT
        go_wp2_with fail
        go_roundw
        case rel => exact ⟨k + 1, u, rfl, rfl, by omega, ⟨by rw [HT.out]; exact HA.out⟩, HB⟩
        case measure => simp [intOf]; omega
      · have e1 : (x0 == r) = false := beq_eq_false_iff_ne.2 e
        have e2 : (x0 != r) = true := by rw [bne, e1]; rfl
        rw [if_neg e] at HT
        clear e
        generalize withoutL (L.take k) r = ys at HA HT HWL
        obtain ⟨F, hr, hFb, put⟩ := (head_box HA.out).head
        have HR := Aside0.mk (Kd.R_mono (ok' := fun k => F k ∨ wr.heap.size ≤ k) (show Kd.R k31 31 wr 0 F u ys from hr) (fun k hk => .inl hk))
        have HV := Aside0.mk (show ∀ k, u.ownBlock = some k → F k from hr.1)
        have HFB := Aside0.mk hFb
        have PUT := Aside0.mk put
        clear hr hFb put
        go_wp2_with (refine Kd.R_append k31 (w0 := wr) (W := wr) 0 rfl _ _ 22 31 (.agg #[.int .u32 0, .int .i64 0]) 16 rfl Try.underlying22 info31 rfl (by decide) (by decide) u ys ⟨x0, x1⟩ [.int .u32 x0, .int .i64 x1] (fun k => F k ∨ wr.heap.size ≤ k) (fun _ => False) rfl rfl (k31_mkM _ _ _ _) (fun _ f => f.elim) (fun k hk => .inr hk) HR.out (Below.refl _ _) (Nat.zero_le _) (by have := HWL.out; omega) ?_; rintro v5 w5 hr5 - hg5 -; have HRG := Aside0.mk (row_grown HFB.out PUT.out HV.out hg5 hr5); clear hr5 hg5)
        go_roundw
        case rel => exact ⟨k + 1, v5, rfl, rfl, by omega, ⟨by rw [HT.out]; exact tail_box HRG.out.1⟩, ⟨HB.out.trans HRG.out.2⟩⟩
        case measure => simp [intOf]; omega
    · have d1 : decide ((k : Int) < (L.length : Int)) = false := decide_eq_false (by omega)
      obtain ⟨Au, cu, rfl, hcu, -⟩ := HA.out.reads (d := k31) (e := 31) (v := u) (xs := withoutL (L.take k) r) (by simp)
      have hlk : L.take k = L := List.take_of_length_le (by omega)
      rw [hlk] at HA ⊢
      clear hlk hcu hC
      obtain ⟨hA, hB⟩ := ref_turn HA.out
      have HA2 := Aside0.mk hA
      have HB2 := Aside0.mk (HB.out.trans hB)
      clear hA hB HA HB
      go_wp2_with fail
      go_ret
      exact ⟨_, by simp, HA2.out, HB2.out⟩
end Go.Proofs.Ytpnoghnhlddjeaa.Wk
namespace Go.Proofs.Ytpnoghnhlddjeaa.Wk
open Go.RowKit Go.Proofs.YtpnoghnhlddjeaaW.PrintWords Go.Proofs.YtpnoghnhlddjeaaW.PrintLast Go.Proofs.YtpnoghnhlddjeaaW.PrintMore Go.Proofs.Ytpnoghnhlddjeaa.Q Go.Proofs.Ytpnoghnhlddjeaa.Own Go.Proofs.Ytpnoghnhlddjeaa.Hp
set_option linter.unusedVariables false
set_option linter.unusedSimpArgs false
attribute [local go_sem ↓] Go.wp_at_zero Go.wp_at_succ

set_option maxHeartbeats 4000000 in
set_option maxRecDepth 100000 in
theorem rput_bad {B : Nat} {w : World} {g n : Nat} {v : Value} {L : List S31} {Ts : List Th} (h : Has B w (refL g v n L ++ Ts)) (x : S31) (hx : x.f1 < 0 ∨ x.f1 > 1099511627776) :
    Calls Try.prog 19 #[ptr g, aggT x] w (RefPost B w g n L Ts (.int .i64 2)) := by
  obtain ⟨x0, x1⟩ := x
  dsimp only at hx
  have HA0 : Aside0 (Has B (w.alloc (.cells #[.int .u32 x0, .int .i64 x1] 31)) (refL g v n L ++ (boxT w.heap.size #[.int .u32 x0, .int .i64 x1] 31 :: Ts))) := ⟨tail_box (h.box #[.int .u32 x0, .int .i64 x1] 31)⟩
  have HB0 : Aside0 (Below B w (w.alloc (.cells #[.int .u32 x0, .int .i64 x1] 31))) := ⟨(Below.refl B w).alloc h.size _⟩
  have hu := Try.underlying31
  clear h
  by_cases h1 : x1 < 0
  · clear hx
    go_enter Try.func19, Try.ntmps19
    go_wp2_with fail
    go_ret
    exact ⟨_, rfl, (head_box HA0.out).tail, HB0.out⟩
  · have h2 : 1099511627776 < x1 := hx.resolve_left h1
    clear hx
    go_enter Try.func19, Try.ntmps19
    go_wp2_with fail
    go_ret
    exact ⟨_, rfl, (head_box HA0.out).tail, HB0.out⟩
/-- The tasks of one home. -/
def ofHome (L : List S31) (n i : Nat) : List S31 := L.filter fun x => homeOf x.f0 n == i
/-- The list behind a worker's take. -/
def takeL (L : List S31) (n i : Nat) (a : Int) : List S31 := if takeO (ofHome L n i) a = true then withoutL L (takeX (ofHome L n i) a).f0 else L
theorem homes_drop {L : List S31} {n i k : Nat} (hk : k < L.length) : ofHome (L.drop k) n i = (if homeOf (rd_T31 L (k : Int)).f0 n = i then [rd_T31 L (k : Int)] else []) ++ ofHome (L.drop (k + 1)) n i := by
  unfold ofHome
  rw [drop_nat L hk, List.filter_cons]
  by_cases e : homeOf (rd_T31 L (k : Int)).f0 n = i <;> simp [e]
set_option maxHeartbeats 8000000 in
set_option maxRecDepth 100000 in
theorem rtake_calls {B : Nat} {w : World} {g n : Nat} {v : Value} {L : List S31} {Ts : List Th} (h : Has B w (refL g v n L ++ Ts)) (hn : 0 < n) (hg : ∀ x ∈ L, GoodT x) (hm : L.length ≤ 1000000) (i : Nat) (a : Int) :
    Calls Try.prog 38 #[ptr g, .int .i64 (i : Int), .int .i64 a] w (RefPost B w g n (takeL L n i a) Ts (pairV (takeX (ofHome L n i) a) (takeO (ofHome L n i) a))) := by
  have HA0 : Aside0 (Has B (w.alloc (.cells #[.int .u32 0, .int .i64 0] 31)) (refL g v n L ++ (boxT w.heap.size #[.int .u32 0, .int .i64 0] 31 :: Ts))) := ⟨tail_box (h.box #[.int .u32 0, .int .i64 0] 31)⟩
  have HB0 : Aside0 (Below B w (w.alloc (.cells #[.int .u32 0, .int .i64 0] 31))) := ⟨(Below.refl B w).alloc h.size _⟩
  have HG := Aside0.mk hg
  have hu := Try.underlying31
  obtain ⟨-, -, -, A, c, rfl, -, -⟩ := ref_cells h
  clear h hg
  go_enter Try.func38, Try.ntmps38
  go_wp2_with fail
  generalize w.alloc (.cells #[.int .u32 0, .int .i64 0] 31) = w1 at HA0 HB0 ⊢
  generalize w.heap.size = b1 at HA0 ⊢
  go_loopw [8] (fun k1 wr => ∃ k : Nat, k1 = .int .i64 k ∧ k ≤ L.length ∧ Aside0 (ofHome L n i = ofHome (L.drop k) n i) ∧ Aside0 (Has B wr (refL g (.slice A L.length c) n L ++ (boxT b1 #[.int .u32 0, .int .i64 0] 31 :: Ts))) ∧ Aside0 (Below B w wr)) (fun i _ => L.length - (intOf i).toNat)
  case atStart => exact ⟨0, rfl, by omega, ⟨by rw [List.drop_zero]⟩, HA0, HB0⟩
  case round =>
    clear HA0 HB0
    obtain ⟨k, rfl, hk, HH, HA, HB⟩ := hrel
    obtain ⟨q0, q1, f1, A_, c_, ev_, hc, hC⟩ := ref_cells HA.out
    cases ev_
    by_cases hlt : k < L.length
    · have d1 : decide ((k : Int) < (L.length : Int)) = true := decide_eq_true (by omega)
      have d2 : decide (0 ≤ (k : Int)) = true := decide_eq_true (by omega)
      have d3 : (k : Int) < (L.length : Int) := by omega
      obtain ⟨ad, rfl, hi2, hi3⟩ := at_T31 hC (k : Int) (by omega) (by omega)
      rw [Int.toNat_natCast] at hi2 hi3
      have hxg := HG.out _ (show rd_T31 L (k : Int) ∈ L from rd_mem hlt)
      have HHD := Aside0.mk (homes_drop (n := n) (i := i) hlt)
      generalize rd_T31 L (k : Int) = x at hi2 hi3 hxg HHD
      obtain ⟨x0, x1⟩ := x
      dsimp only at hi2 hi3 HHD
      have HA1 := Aside0.mk (tail_box (HA.out.box #[.int .u32 x0, .int .i64 x1] 31))
      have HB1 := Aside0.mk (HB.out.alloc HA.out.size (.cells #[.int .u32 x0, .int .i64 x1] 31))
      obtain ⟨p0, p1, -, -⟩ := ref_cells HA1.out
      obtain ⟨qa, -, -, -⟩ := Has.box_cell HA1.out (b := wr.heap.size) (cs := #[.int .u32 x0, .int .i64 x1]) (t := 31) (by simp)
      have b0 : (wr.alloc (.cells #[.int .u32 x0, .int .i64 x1] 31)).cell? ⟨wr.heap.size, 0, none⟩ = some (.int .u32 x0) := qa 0
      have b2 : (wr.alloc (.cells #[.int .u32 x0, .int .i64 x1] 31)).cell? ⟨wr.heap.size, 1, none⟩ = some (.int .i64 x1) := qa 1
      have HHC := Aside0.mk (rhome_calls p0 hn x0 hxg.1 hxg.2)
      clear qa hC hc hxg p1 f1
      by_cases hh : homeOf x0 n = i
      · have e1 : (((homeOf x0 n : Nat) : Int) == (i : Int)) = true := by rw [beq_iff_eq]; omega
        rw [if_pos hh] at HHD
        have HS : Aside0 (ofHome L n i = ⟨x0, x1⟩ :: ofHome (L.drop (k + 1)) n i) := ⟨by rw [HH.out, HHD.out]; rfl⟩
        clear hh HHD HH
        generalize homeOf x0 n = hx at HHC e1
        by_cases hat : x1 > a
        · have HT : Aside0 (takeO (ofHome L n i) a = false) := ⟨by rw [HS.out]; exact decide_eq_false (by dsimp only; omega)⟩
          have d5 : decide (x1 > a) = true := decide_eq_true hat
          go_wp2_with fail
          refine HHC.out.mono ?_
          rintro e w3 ⟨rfl, rfl⟩
          clear hi2 hi3 q0 q1
          have HZ := Aside0.mk ((head_box (second HA1.out)))
          obtain ⟨qa, qb, -, -⟩ := Has.box_cell HZ.out (b := b1) (cs := #[.int .u32 0, .int .i64 0]) (t := 31) (by simp)
          have f0 := qb 0
          have f1 := qb 1
          have c0 : (wr.alloc (.cells #[.int .u32 x0, .int .i64 x1] 31)).cell? ⟨b1, 0, none⟩ = some (.int .u32 0) := qa 0
          have c1 : (wr.alloc (.cells #[.int .u32 x0, .int .i64 x1] 31)).cell? ⟨b1, 1, none⟩ = some (.int .i64 0) := qa 1
          clear qa qb
          go_wp2_with fail
          obtain ⟨s1, t1⟩ := HZ.out.box_set 0 (.int .u32 0)
          obtain ⟨s2, t2⟩ := s1.box_set 1 (.int .i64 0)
          obtain ⟨qa, -, -, -⟩ := Has.box_cell s2 (b := b1) (t := 31) (cs := (((#[.int .u32 0, .int .i64 0] : Array Value).setIfInBounds 0 (.int .u32 0)).setIfInBounds 1 (.int .i64 0))) (by simp)
          have r0 := qa 0
          have r1 := qa 1
          have HAG := Aside0.mk s2
          have HBG := Aside0.mk (HB1.out.trans (t1.trans t2))
          clear qa s1 s2 t1 t2 f0 f1 c0 c1
          refine bodyPost_ret (v := .tuple #[.agg #[.int .u32 0, .int .i64 0], .bool false]) (by simp [results, Try.results38, go_sem] at r0 r1 ⊢; simp [r0, r1, go_sem]) rfl ?_
          have eP : pairV (takeX (ofHome L n i) a) (takeO (ofHome L n i) a) = .tuple #[.agg #[.int .u32 0, .int .i64 0], .bool false] := by unfold takeX; rw [HT.out]; rfl
          have eL : takeL L n i a = L := by unfold takeL; rw [HT.out]; rfl
          refine ⟨.slice (some ad) L.length c, by rw [eP], ?_, HBG.out⟩
          rw [eL]
          exact (head_box HAG.out.tail).tail
        · have HT : Aside0 (takeO (ofHome L n i) a = true) := ⟨by rw [HS.out]; exact decide_eq_true (by dsimp only; omega)⟩
          have HX : Aside0 (takeX (ofHome L n i) a = ⟨x0, x1⟩) := ⟨by rw [HS.out]; exact (takes_cons (by dsimp only; omega)).1⟩
          have d5 : decide (x1 > a) = false := decide_eq_false hat
          go_wp2_with fail
          refine HHC.out.mono ?_
          rintro e w3 ⟨rfl, rfl⟩
          have HDC := Aside0.mk (rdrop_calls HA1.out hm x0)
          clear hi2 hi3 q0 q1 p0
          go_wp2_with fail
          refine HDC.out.mono ?_
          rintro e w4 ⟨v4, rfl, hA, hB⟩
          have HA4 := Aside0.mk hA
          have HB4 := Aside0.mk (HB1.out.trans hB)
          clear hA hB HDC HA1 HB1 b0 b2
          generalize wr.heap.size = b9 at HA4 ⊢
          obtain ⟨qa, -, -, -⟩ := Has.box_cell HA4.out (b := b9) (cs := #[.int .u32 x0, .int .i64 x1]) (t := 31) (by simp)
          have b0 : w4.cell? ⟨b9, 0, none⟩ = some (.int .u32 x0) := qa 0
          have b2 : w4.cell? ⟨b9, 1, none⟩ = some (.int .i64 x1) := qa 1
          clear qa
          have HZ := Aside0.mk ((head_box (second HA4.out)))
          obtain ⟨qa, qb, -, -⟩ := Has.box_cell HZ.out (b := b1) (cs := #[.int .u32 0, .int .i64 0]) (t := 31) (by simp)
          have f0 := qb 0
          have f1 := qb 1
          have c0 : w4.cell? ⟨b1, 0, none⟩ = some (.int .u32 0) := qa 0
          have c1 : w4.cell? ⟨b1, 1, none⟩ = some (.int .i64 0) := qa 1
          clear qa qb
          go_wp2_with fail
          obtain ⟨s1, t1⟩ := HZ.out.box_set 0 (.int .u32 x0)
          obtain ⟨s2, t2⟩ := s1.box_set 1 (.int .i64 x1)
          obtain ⟨qa, -, -, -⟩ := Has.box_cell s2 (b := b1) (t := 31) (cs := (((#[.int .u32 0, .int .i64 0] : Array Value).setIfInBounds 0 (.int .u32 x0)).setIfInBounds 1 (.int .i64 x1))) (by simp)
          have r0 := qa 0
          have r1 := qa 1
          have HAG := Aside0.mk s2
          have HBG := Aside0.mk (HB4.out.trans (t1.trans t2))
          clear qa s1 s2 t1 t2 f0 f1 c0 c1
          refine bodyPost_ret (v := .tuple #[.agg #[.int .u32 x0, .int .i64 x1], .bool true]) (by simp [results, Try.results38, go_sem] at r0 r1 ⊢; simp [r0, r1, go_sem]) rfl ?_
          have eP : pairV (takeX (ofHome L n i) a) (takeO (ofHome L n i) a) = .tuple #[.agg #[.int .u32 x0, .int .i64 x1], .bool true] := by rw [HX.out, HT.out]; rfl
          have eL : takeL L n i a = withoutL L x0 := by unfold takeL; rw [HX.out, HT.out]; rfl
          refine ⟨v4, by rw [eP], ?_, HBG.out⟩
          rw [eL]
          exact (head_box HAG.out.tail).tail
      · have e1 : (((homeOf x0 n : Nat) : Int) == (i : Int)) = false := beq_eq_false_iff_ne.2 (by omega)
        rw [if_neg hh, List.nil_append] at HHD
        have HS : Aside0 (ofHome L n i = ofHome (L.drop (k + 1)) n i) := ⟨by rw [HH.out, HHD.out]⟩
        clear hh HHD HH
        generalize homeOf x0 n = hx at HHC e1
        go_wp2_with fail
        refine HHC.out.mono ?_
        rintro e w3 ⟨rfl, rfl⟩
        go_wp2_with fail
        go_roundw
        case rel => exact ⟨k + 1, rfl, by omega, HS, ⟨(head_box HA1.out).tail⟩, HB1⟩
        case measure => simp [intOf]; omega
    · have d1 : decide ((k : Int) < (L.length : Int)) = false := decide_eq_false (by omega)
      have HS : Aside0 (ofHome L n i = []) := ⟨by rw [HH.out, List.drop_eq_nil_of_le (by omega)]; rfl⟩
      have HT : Aside0 (takeO (ofHome L n i) a = false) := ⟨by rw [HS.out]; rfl⟩
      have HZ := Aside0.mk (head_box HA.out)
      obtain ⟨qa, qb, -, -⟩ := Has.box_cell HZ.out (b := b1) (cs := #[.int .u32 0, .int .i64 0]) (t := 31) (by simp)
      have f0 := qb 0
      have f1 := qb 1
      have c0 : wr.cell? ⟨b1, 0, none⟩ = some (.int .u32 0) := qa 0
      have c1 : wr.cell? ⟨b1, 1, none⟩ = some (.int .i64 0) := qa 1
      clear qa qb
      go_wp2_with fail
      obtain ⟨s1, t1⟩ := HZ.out.box_set 0 (.int .u32 0)
      obtain ⟨s2, t2⟩ := s1.box_set 1 (.int .i64 0)
      obtain ⟨qa, -, -, -⟩ := Has.box_cell s2 (b := b1) (t := 31) (cs := (((#[.int .u32 0, .int .i64 0] : Array Value).setIfInBounds 0 (.int .u32 0)).setIfInBounds 1 (.int .i64 0))) (by simp)
      have r0 := qa 0
      have r1 := qa 1
      have HAG := Aside0.mk s2
      have HBG := Aside0.mk (HB.out.trans (t1.trans t2))
      clear qa s1 s2 t1 t2 f0 f1 c0 c1
      refine bodyPost_ret (v := .tuple #[.agg #[.int .u32 0, .int .i64 0], .bool false]) (by simp [results, Try.results38, go_sem] at r0 r1 ⊢; simp [r0, r1, go_sem]) rfl ?_
      have eP : pairV (takeX (ofHome L n i) a) (takeO (ofHome L n i) a) = .tuple #[.agg #[.int .u32 0, .int .i64 0], .bool false] := by unfold takeX; rw [HT.out]; rfl
      have eL : takeL L n i a = L := by unfold takeL; rw [HT.out]; rfl
      refine ⟨.slice A L.length c, by rw [eP], ?_, HBG.out⟩
      rw [eL]
      exact HAG.out.tail
end Go.Proofs.Ytpnoghnhlddjeaa.Wk
namespace Go.Proofs.Ytpnoghnhlddjeaa.Wk
open Go.RowKit Go.Proofs.YtpnoghnhlddjeaaW.PrintWords Go.Proofs.YtpnoghnhlddjeaaW.PrintLast Go.Proofs.YtpnoghnhlddjeaaW.PrintMore Go.Proofs.Ytpnoghnhlddjeaa.Q Go.Proofs.Ytpnoghnhlddjeaa.Own Go.Proofs.Ytpnoghnhlddjeaa.Hp
set_option linter.unusedVariables false
set_option linter.unusedSimpArgs false
attribute [local go_sem ↓] Go.wp_at_zero Go.wp_at_succ

/-- The worker with the most tasks, as the list tells it. -/
def mostR (L : List S31) (n : Nat) : Nat → Nat
  | 0 => 0
  | i + 1 => if i = 0 then 0 else if rcnt L n (i : Int) > rcnt L n (mostR L n i : Int) then i else mostR L n i
theorem mostR_lt (L : List S31) (n : Nat) : ∀ i, mostR L n i ≤ i - 1
  | 0 => Nat.le_refl _
  | i + 1 => by
    have := mostR_lt L n i
    unfold mostR
    split
    · omega
    · split <;> omega
/-- What the document's turn tells, and leaves. -/
structure RTurn where
  x : S31
  stolen : Bool
  ok : Bool
  L : List S31
def rturn (L : List S31) (n : Nat) (i a : Int) : RTurn :=
  if i < 0 ∨ (n : Int) ≤ i then ⟨z31, false, false, L⟩
  else if takeO (ofHome L n i.toNat) a = true then ⟨takeX (ofHome L n i.toNat) a, false, true, takeL L n i.toNat a⟩
  else if mostR L n n = i.toNat then ⟨z31, false, false, L⟩
  else ⟨takeX (ofHome L n (mostR L n n)) a, takeO (ofHome L n (mostR L n n)) a, takeO (ofHome L n (mostR L n n)) a, takeL L n (mostR L n n) a⟩
set_option maxHeartbeats 8000000 in
set_option maxRecDepth 100000 in
theorem rturn_out {B : Nat} {w : World} {g n : Nat} {v : Value} {L : List S31} {Ts : List Th} (h : Has B w (refL g v n L ++ Ts)) (i a : Int) (hi : i < 0 ∨ (n : Int) ≤ i) :
    Calls Try.prog 16 #[ptr g, .int .i64 i, .int .i64 a] w (RefPost B w g n L Ts (turnV z31 false false)) := by
  have HA0 : Aside0 (Has B (w.alloc (.cells #[.int .u32 0, .int .i64 0] 31)) (boxT w.heap.size #[.int .u32 0, .int .i64 0] 31 :: (refL g v n L ++ Ts))) := ⟨h.box #[.int .u32 0, .int .i64 0] 31⟩
  have HB0 : Aside0 (Below B w (w.alloc (.cells #[.int .u32 0, .int .i64 0] 31))) := ⟨(Below.refl B w).alloc h.size _⟩
  have hu := Try.underlying31
  obtain ⟨p0, -, -, -⟩ := ref_cells (tail_box HA0.out)
  clear h
  by_cases h1 : i < 0
  · have d1 : decide (i < 0) = true := decide_eq_true h1
    clear hi
    go_enter Try.func16, Try.ntmps16
    go_wp2_with fail
    refine bodyPost_ret (v := .tuple #[.agg #[.int .u32 0, .int .i64 0], .bool false, .bool false]) (by simp [results, Try.results16, go_sem]) rfl ?_
    exact ⟨_, rfl, HA0.out.tail, HB0.out⟩
  · have h2 : (n : Int) ≤ i := hi.resolve_left h1
    have d1 : decide (i < 0) = false := decide_eq_false h1
    have d2 : decide (i ≥ (n : Int)) = true := decide_eq_true h2
    clear hi
    go_enter Try.func16, Try.ntmps16
    go_wp2_with fail
    refine bodyPost_ret (v := .tuple #[.agg #[.int .u32 0, .int .i64 0], .bool false, .bool false]) (by simp [results, Try.results16, go_sem]) rfl ?_
    exact ⟨_, rfl, HA0.out.tail, HB0.out⟩
set_option maxHeartbeats 8000000 in
set_option maxRecDepth 100000 in
theorem rturn_in {B : Nat} {w : World} {g n : Nat} {v : Value} {L : List S31} {Ts : List Th} (h : Has B w (refL g v n L ++ Ts)) (hn : 0 < n) (hg : ∀ x ∈ L, GoodT x) (hm : L.length ≤ 1000000) (i : Nat) (hi : i < n) (a : Int) (hn4 : n ≤ 4) :
    Calls Try.prog 16 #[ptr g, .int .i64 (i : Int), .int .i64 a] w (RefPost B w g n (rturn L n (i : Int) a).L Ts (turnV (rturn L n (i : Int) a).x (rturn L n (i : Int) a).stolen (rturn L n (i : Int) a).ok)) := by
  have eR : rturn L n (i : Int) a = if takeO (ofHome L n i) a = true then ⟨takeX (ofHome L n i) a, false, true, takeL L n i a⟩ else if mostR L n n = i then ⟨z31, false, false, L⟩ else ⟨takeX (ofHome L n (mostR L n n)) a, takeO (ofHome L n (mostR L n n)) a, takeO (ofHome L n (mostR L n n)) a, takeL L n (mostR L n n) a⟩ := by
    unfold rturn
    rw [if_neg (by omega), Int.toNat_natCast]
  have ER := Aside0.mk eR
  have HG := Aside0.mk hg
  have HA0 : Aside0 (Has B (w.alloc (.cells #[.int .u32 0, .int .i64 0] 31)) (refL g v n L ++ (boxT w.heap.size #[.int .u32 0, .int .i64 0] 31 :: Ts))) := ⟨tail_box (h.box #[.int .u32 0, .int .i64 0] 31)⟩
  have HB0 : Aside0 (Below B w (w.alloc (.cells #[.int .u32 0, .int .i64 0] 31))) := ⟨(Below.refl B w).alloc h.size _⟩
  have hu := Try.underlying31
  obtain ⟨p0, -, -, -⟩ := ref_cells HA0.out
  have HTK := Aside0.mk (rtake_calls HA0.out hn hg hm i a)
  have d0 : ¬ (i : Int) < 0 := by omega
  have d1 : decide ((i : Int) ≥ (n : Int)) = false := decide_eq_false (by omega)
  have d2 : ¬ (n : Int) ≤ (i : Int) := by omega
  clear h hg eR
  generalize rturn L n (i : Int) a = R at ER ⊢
  go_enter Try.func16, Try.ntmps16
  go_wp2_with fail
  generalize w.alloc (.cells #[.int .u32 0, .int .i64 0] 31) = w1 at HA0 HB0 HTK ⊢
  generalize w.heap.size = b1 at HA0 HTK ⊢
  refine HTK.out.mono ?_
  rintro e w2 ⟨v2, rfl, hA, hB⟩
  clear p0 d0 d1 d2 HTK
  by_cases hok : takeO (ofHome L n i) a = true
  · have HR : Aside0 (R = ⟨takeX (ofHome L n i) a, false, true, takeL L n i a⟩) := ⟨by rw [ER.out, if_pos hok]⟩
    have HL1 := Aside0.mk hA
    rw [hok]
    clear hok ER hA
    generalize takeX (ofHome L n i) a = x at HR ⊢
    generalize takeL L n i a = L1 at HR HL1
    obtain ⟨x0, x1⟩ := x
    dsimp only [pairV]
    have HA3 := Aside0.mk (tail_box (HL1.out.box #[.int .u32 x0, .int .i64 x1] 31))
    have HB3 := Aside0.mk ((HB0.out.trans hB).alloc HL1.out.size (.cells #[.int .u32 x0, .int .i64 x1] 31))
    clear hB HL1 HA0 HB0
    obtain ⟨qa, qb, -, -⟩ := Has.box_cell HA3.out (b := w2.heap.size) (cs := #[.int .u32 x0, .int .i64 x1]) (t := 31) (by simp)
    have bc0 : (w2.alloc (.cells #[.int .u32 x0, .int .i64 x1] 31)).cell? ⟨w2.heap.size, 0, none⟩ = some (.int .u32 x0) := qa 0
    have bc1 : (w2.alloc (.cells #[.int .u32 x0, .int .i64 x1] 31)).cell? ⟨w2.heap.size, 1, none⟩ = some (.int .i64 x1) := qa 1
    clear qa qb
    obtain ⟨qa, qb, -, -⟩ := Has.box_cell HA3.out (b := b1) (cs := #[.int .u32 0, .int .i64 0]) (t := 31) (by simp)
    have c0 : (w2.alloc (.cells #[.int .u32 x0, .int .i64 x1] 31)).cell? ⟨b1, 0, none⟩ = some (.int .u32 0) := qa 0
    have c1 : (w2.alloc (.cells #[.int .u32 x0, .int .i64 x1] 31)).cell? ⟨b1, 1, none⟩ = some (.int .i64 0) := qa 1
    have f0 : (w2.alloc (.cells #[.int .u32 x0, .int .i64 x1] 31)).frozen? ⟨b1, 0, none⟩ = false := qb 0
    have f1 : (w2.alloc (.cells #[.int .u32 x0, .int .i64 x1] 31)).frozen? ⟨b1, 1, none⟩ = false := qb 1
    clear qa qb
    have HZ := Aside0.mk (head_box (second HA3.out))
    obtain ⟨s1, t1⟩ := HZ.out.box_set 0 (.int .u32 x0)
    obtain ⟨s2, t2⟩ := s1.box_set 1 (.int .i64 x1)
    obtain ⟨qa, -, -, -⟩ := Has.box_cell s2 (b := b1) (t := 31) (cs := (((#[.int .u32 0, .int .i64 0] : Array Value).setIfInBounds 0 (.int .u32 x0)).setIfInBounds 1 (.int .i64 x1))) (by simp)
    have R0 := Aside0.mk (qa 0)
    have R1 := Aside0.mk (qa 1)
    have HAG := Aside0.mk s2
    have HBG := Aside0.mk (HB3.out.trans (t1.trans t2))
    clear qa s1 s2 t1 t2
    go_wp2_with fail
    have r0 := R0.out
    have r1 := R1.out
    clear c0 c1 f0 f1 bc0 bc1
    refine bodyPost_ret (v := .tuple #[.agg #[.int .u32 x0, .int .i64 x1], .bool false, .bool true]) (by simp [results, Try.results16, go_sem] at r0 r1 ⊢; simp [r0, r1, go_sem]) rfl ?_
    exact ⟨v2, by rw [HR.out]; rfl, by rw [HR.out]; exact (head_box HAG.out.tail).tail, HBG.out⟩
  have hok' : takeO (ofHome L n i) a = false := by cases h : takeO (ofHome L n i) a with
    | true => exact absurd h hok
    | false => rfl
  rw [if_neg hok] at ER
  have eX : takeX (ofHome L n i) a = z31 := by unfold takeX; rw [hok']; rfl
  have eL : takeL L n i a = L := by unfold takeL; rw [hok']; rfl
  rw [eL] at hA
  rw [eX, hok']
  dsimp only [pairV, z31]
  have HA3 := Aside0.mk (tail_box (hA.box #[.int .u32 0, .int .i64 0] 31))
  have HB3 := Aside0.mk ((HB0.out.trans hB).alloc hA.size (.cells #[.int .u32 0, .int .i64 0] 31))
  clear hA hB HA0 HB0 hok hok' eX eL
  go_wp2_with fail
  generalize w2.alloc (.cells #[.int .u32 0, .int .i64 0] 31) = w3 at HA3 HB3 ⊢
  generalize w2.heap.size = b9 at HA3 ⊢
  obtain ⟨p0, -, -, -⟩ := ref_cells HA3.out
  go_loopw [12, 11] (fun i1 m1 wr => ∃ k : Nat, i1 = .int .i64 k ∧ m1 = .int .i64 (mostR L n k : Nat) ∧ 1 ≤ k ∧ k ≤ n ∧ Aside0 (wr = w3)) (fun i _ _ => n - (intOf i).toNat)
  case atStart => exact ⟨1, rfl, rfl, by omega, hn, ⟨by first | rfl | trivial⟩⟩
  case round =>
    obtain ⟨q, rfl, rfl, hq1, hqn, ⟨rfl⟩⟩ := hrel
    by_cases hlt : q < n
    · have d1 : decide ((q : Int) < (n : Int)) = true := decide_eq_true (by omega)
      have HC1 := Aside0.mk (rcount_calls HA3.out hn HG.out hm (q : Int))
      have HC2 := Aside0.mk (rcount_calls HA3.out hn HG.out hm ((mostR L n q : Nat) : Int))
      by_cases hg : rcnt L n (q : Int) > rcnt L n (mostR L n q : Int)
      · skip
        have HM : Aside0 (mostR L n (q + 1) = q) := ⟨by
          show (if q = 0 then 0 else if rcnt L n (q : Int) > rcnt L n (mostR L n q : Int) then q else mostR L n q) = q
          rw [if_neg (by omega), if_pos hg]⟩
        have d2 : decide ((rcnt L n (q : Int) : Int) > (rcnt L n (mostR L n q : Int) : Int)) = true := decide_eq_true (by omega)
        have d3 : rcnt L n (mostR L n q : Int) < rcnt L n (q : Int) := hg
        clear hg
        generalize rcnt L n (mostR L n q : Int) = lm at HC2 d2 d3
        generalize rcnt L n (q : Int) = lq at HC1 d2 d3
        go_wp2_with fail
        refine HC1.out.mono ?_
        rintro e w4 ⟨rfl, rfl⟩
        go_wp2_with fail
        refine HC2.out.mono ?_
        rintro e w4 ⟨rfl, rfl⟩
        go_wp2_with fail
        go_roundw
        case rel => exact ⟨q + 1, rfl, by rw [HM.out], by omega, by omega, ⟨by first | rfl | trivial⟩⟩
        case measure => simp [intOf]; omega
      · skip
        have HM : Aside0 (mostR L n (q + 1) = mostR L n q) := ⟨by
          show (if q = 0 then 0 else if rcnt L n (q : Int) > rcnt L n (mostR L n q : Int) then q else mostR L n q) = mostR L n q
          rw [if_neg (by omega), if_neg hg]⟩
        have d2 : decide ((rcnt L n (q : Int) : Int) > (rcnt L n (mostR L n q : Int) : Int)) = false := decide_eq_false (by omega)
        have d3 : ¬ rcnt L n (mostR L n q : Int) < rcnt L n (q : Int) := hg
        clear hg
        generalize rcnt L n (mostR L n q : Int) = lm at HC2 d2 d3
        generalize rcnt L n (q : Int) = lq at HC1 d2 d3
        go_wp2_with fail
        refine HC1.out.mono ?_
        rintro e w4 ⟨rfl, rfl⟩
        go_wp2_with fail
        refine HC2.out.mono ?_
        rintro e w4 ⟨rfl, rfl⟩
        go_wp2_with fail
        go_roundw
        case rel => exact ⟨q + 1, rfl, by rw [HM.out], by omega, by omega, ⟨by first | rfl | trivial⟩⟩
        case measure => simp [intOf]; omega
    · have d1 : decide ((q : Int) < (n : Int)) = false := decide_eq_false (by omega)
      obtain rfl : q = n := by omega
      by_cases hmi : mostR L q q = i
      · rw [if_pos hmi] at ER
        have e1 : (((mostR L q q : Nat) : Int) == (i : Int)) = true := by rw [beq_iff_eq]; omega
        have e2 : ((mostR L q q : Nat) : Int) = (i : Int) := by omega
        obtain ⟨qa, qb, -, -⟩ := Has.box_cell HA3.out (b := b1) (cs := #[.int .u32 0, .int .i64 0]) (t := 31) (by simp)
        have c0 : wr.cell? ⟨b1, 0, none⟩ = some (.int .u32 0) := qa 0
        have c1 : wr.cell? ⟨b1, 1, none⟩ = some (.int .i64 0) := qa 1
        have f0 : wr.frozen? ⟨b1, 0, none⟩ = false := qb 0
        have f1 : wr.frozen? ⟨b1, 1, none⟩ = false := qb 1
        clear qa qb
        have HZ := Aside0.mk (head_box (second HA3.out))
        obtain ⟨s1, t1⟩ := HZ.out.box_set 0 (.int .u32 0)
        obtain ⟨s2, t2⟩ := s1.box_set 1 (.int .i64 0)
        obtain ⟨qa, -, -, -⟩ := Has.box_cell s2 (b := b1) (t := 31) (cs := (((#[.int .u32 0, .int .i64 0] : Array Value).setIfInBounds 0 (.int .u32 0)).setIfInBounds 1 (.int .i64 0))) (by simp)
        have R0 := Aside0.mk (qa 0)
        have R1 := Aside0.mk (qa 1)
        have HAG := Aside0.mk s2
        have HBG := Aside0.mk (HB3.out.trans (t1.trans t2))
        clear qa s1 s2 t1 t2
        go_wp2_with fail
        have r0 := R0.out
        have r1 := R1.out
        clear c0 c1 f0 f1
        refine bodyPost_ret (v := .tuple #[.agg #[.int .u32 0, .int .i64 0], .bool false, .bool false]) (by simp [results, Try.results16, go_sem] at r0 r1 ⊢; simp [r0, r1, go_sem]) rfl ?_
        exact ⟨v2, by rw [ER.out]; rfl, by rw [ER.out]; exact (head_box HAG.out.tail).tail, HBG.out⟩
      · rw [if_neg hmi] at ER
        have e1 : (((mostR L q q : Nat) : Int) == (i : Int)) = false := beq_eq_false_iff_ne.2 (by omega)
        have e2 : ¬ ((mostR L q q : Nat) : Int) = (i : Int) := by omega
        generalize mostR L q q = m at ER e1 e2
        have HT2 := Aside0.mk (rtake_calls HA3.out hn HG.out hm m a)
        go_wp2_with fail
        refine HT2.out.mono ?_
        rintro e w5 ⟨v5, rfl, hA, hB⟩
        have HA5 := Aside0.mk hA
        have HB5 := Aside0.mk (HB3.out.trans hB)
        clear hA hB HT2 HA3 HB3 e1 e2 p0 d1
        generalize takeX (ofHome L q m) a = x at ER ⊢
        generalize takeO (ofHome L q m) a = ok at ER ⊢
        generalize takeL L q m a = L1 at ER HA5
        obtain ⟨x0, x1⟩ := x
        dsimp only [pairV]
        obtain ⟨qa, qb, -, -⟩ := Has.box_cell HA5.out (b := b9) (cs := #[.int .u32 0, .int .i64 0]) (t := 31) (by simp)
        have bc0 : w5.cell? ⟨b9, 0, none⟩ = some (.int .u32 0) := qa 0
        have bc1 : w5.cell? ⟨b9, 1, none⟩ = some (.int .i64 0) := qa 1
        have bf0 : w5.frozen? ⟨b9, 0, none⟩ = false := qb 0
        have bf1 : w5.frozen? ⟨b9, 1, none⟩ = false := qb 1
        clear qa qb
        obtain ⟨s1, t1⟩ := (head_box HA5.out).box_set 0 (.int .u32 x0)
        obtain ⟨s2, t2⟩ := s1.box_set 1 (.int .i64 x1)
        have HA6 : Aside0 (Has B ((w5.setCell ⟨b9, 0, none⟩ (.int .u32 x0)).setCell ⟨b9, 1, none⟩ (.int .i64 x1)) (boxT b9 #[.int .u32 x0, .int .i64 x1] 31 :: (refL g v5 q L1 ++ (boxT b1 #[.int .u32 0, .int .i64 0] 31 :: Ts)))) := ⟨s2⟩
        have HB6 := Aside0.mk (HB5.out.trans (t1.trans t2))
        clear s1 s2 t1 t2
        obtain ⟨qa, qb, -, -⟩ := Has.box_cell HA6.out (b := b9) (cs := #[.int .u32 x0, .int .i64 x1]) (t := 31) (by simp)
        have ec0 : ((w5.setCell ⟨b9, 0, none⟩ (.int .u32 x0)).setCell ⟨b9, 1, none⟩ (.int .i64 x1)).cell? ⟨b9, 0, none⟩ = some (.int .u32 x0) := qa 0
        have ec1 : ((w5.setCell ⟨b9, 0, none⟩ (.int .u32 x0)).setCell ⟨b9, 1, none⟩ (.int .i64 x1)).cell? ⟨b9, 1, none⟩ = some (.int .i64 x1) := qa 1
        clear qa qb
        obtain ⟨qa, qb, -, -⟩ := Has.box_cell HA6.out (b := b1) (cs := #[.int .u32 0, .int .i64 0]) (t := 31) (by simp)
        have c0 : ((w5.setCell ⟨b9, 0, none⟩ (.int .u32 x0)).setCell ⟨b9, 1, none⟩ (.int .i64 x1)).cell? ⟨b1, 0, none⟩ = some (.int .u32 0) := qa 0
        have c1 : ((w5.setCell ⟨b9, 0, none⟩ (.int .u32 x0)).setCell ⟨b9, 1, none⟩ (.int .i64 x1)).cell? ⟨b1, 1, none⟩ = some (.int .i64 0) := qa 1
        have f0 : ((w5.setCell ⟨b9, 0, none⟩ (.int .u32 x0)).setCell ⟨b9, 1, none⟩ (.int .i64 x1)).frozen? ⟨b1, 0, none⟩ = false := qb 0
        have f1 : ((w5.setCell ⟨b9, 0, none⟩ (.int .u32 x0)).setCell ⟨b9, 1, none⟩ (.int .i64 x1)).frozen? ⟨b1, 1, none⟩ = false := qb 1
        clear qa qb
        have HZ := Aside0.mk (head_box HA6.out.tail)
        obtain ⟨s1, t1⟩ := HZ.out.box_set 0 (.int .u32 x0)
        obtain ⟨s2, t2⟩ := s1.box_set 1 (.int .i64 x1)
        obtain ⟨qa, -, -, -⟩ := Has.box_cell s2 (b := b1) (t := 31) (cs := (((#[.int .u32 0, .int .i64 0] : Array Value).setIfInBounds 0 (.int .u32 x0)).setIfInBounds 1 (.int .i64 x1))) (by simp)
        have R0 := Aside0.mk (qa 0)
        have R1 := Aside0.mk (qa 1)
        have HAG := Aside0.mk s2
        have HBG := Aside0.mk (HB6.out.trans (t1.trans t2))
        clear qa s1 s2 t1 t2
        go_wp2_with fail
        have r0 := R0.out
        have r1 := R1.out
        clear c0 c1 f0 f1 bc0 bc1 bf0 bf1 ec0 ec1
        refine bodyPost_ret (v := .tuple #[.agg #[.int .u32 x0, .int .i64 x1], .bool ok, .bool ok]) (by simp [results, Try.results16, go_sem] at r0 r1 ⊢; simp [r0, r1, go_sem]) rfl ?_
        exact ⟨v5, by rw [ER.out]; rfl, by rw [ER.out]; exact HAG.out.tail, HBG.out⟩
end Go.Proofs.Ytpnoghnhlddjeaa.Wk
namespace Go.Proofs.Ytpnoghnhlddjeaa.Wk
open Go.RowKit Go.Proofs.YtpnoghnhlddjeaaW.PrintWords Go.Proofs.YtpnoghnhlddjeaaW.PrintLast Go.Proofs.YtpnoghnhlddjeaaW.PrintMore Go.Proofs.Ytpnoghnhlddjeaa.Q Go.Proofs.Ytpnoghnhlddjeaa.Own Go.Proofs.Ytpnoghnhlddjeaa.Hp
set_option linter.unusedVariables false
set_option linter.unusedSimpArgs false

theorem rcnt_is {hs : List (List S31)} (h : HomeS hs) (hm : hs.flatten.length ≤ 1000000) (i : Int) : (rcnt (sortL hs.flatten) hs.length i : Int) = countR hs i := by
  unfold countR rcnt
  rw [List.countP_eq_length_filter]
  by_cases h0 : i < 0 ∨ (hs.length : Int) ≤ i
  · rw [if_pos h0]
    have : (sortL hs.flatten).filter (fun x => decide (((homeOf x.f0 hs.length : Nat) : Int) = i)) = [] := by
      rw [List.filter_eq_nil_iff]
      intro x _ e
      have e := of_decide_eq_true e
      have : homeOf x.f0 hs.length < hs.length := Nat.mod_lt _ h.pos
      omega
    rw [this]
    rfl
  · rw [if_neg h0, ← own_filter h hm i.toNat]
    congr 2
    refine List.filter_congr fun x _ => ?_
    by_cases e : homeOf x.f0 hs.length = i.toNat
    · rw [decide_eq_true (by omega), beq_iff_eq.2 e]
    · rw [decide_eq_false (by omega), beq_eq_false_iff_ne.2 e]
theorem mostR_is {hs : List (List S31)} (h : HomeS hs) (hm : hs.flatten.length ≤ 1000000) : ∀ k, k ≤ hs.length → mostR (sortL hs.flatten) hs.length k = mostF hs k
  | 0, _ => rfl
  | k + 1, hk => by
    have hc : ∀ j : Nat, j < hs.length → rcnt (sortL hs.flatten) hs.length (j : Int) = (hs.getD j []).length := fun j hj => by
      have := rcnt_is h hm (j : Int)
      unfold countR at this
      rw [if_neg (by omega), Int.toNat_natCast] at this
      omega
    have ih := mostR_is h hm k (by omega)
    have hl := mostF_lt hs k
    unfold mostR mostF
    rw [ih]
    by_cases h0 : k = 0
    · rw [if_pos h0, if_pos h0]
    · rw [if_neg h0, if_neg h0, hc k (by omega), hc (mostF hs k) (by omega)]
theorem sort_is {hs : List (List S31)} {s : List S31} (hp : hs.flatten.Perm s) (hg : GoodS s) : sortL hs.flatten = s := sort_eq hp hg
theorem drop_sort {hs hs' : List (List S31)} (h : HomeS hs) (hm : hs.flatten.length ≤ 1000000) {y : S31} (hp : hs.flatten.Perm (y :: hs'.flatten)) : sortL hs'.flatten = withoutL (sortL hs.flatten) y.f0 := by
  obtain ⟨h1, h2⟩ := all_good h hm
  exact sort_is (without_perm h1.once (h2.trans hp)).symm (good_without h1 _)
theorem take_sort {hs : List (List S31)} (h : HomeS hs) (hm : hs.flatten.length ≤ 1000000) (i : Nat) (a : Int) (ht : takeO (hs.getD i []) a = true) : takeL (sortL hs.flatten) hs.length i a = sortL (hs.set i (takeS (hs.getD i []) a)).flatten := by
  have hi : i < hs.length := by
    rcases Nat.lt_or_ge i hs.length with q | q
    · exact q
    · rw [List.getD_eq_getElem?_getD, List.getElem?_eq_none q] at ht
      cases ht
  have e : ofHome (sortL hs.flatten) hs.length i = hs.getD i [] := own_filter h hm i
  unfold takeL
  rw [e, if_pos ht]
  obtain ⟨R, r1, r2⟩ := flat_pick hs i hi
  obtain ⟨e1, -⟩ := takes_perm ht
  refine (drop_sort h hm (y := takeX (hs.getD i []) a) ?_).symm
  refine r1.trans ?_
  have : (hs.getD i [] ++ R).Perm ((takeX (hs.getD i []) a :: takeS (hs.getD i []) a) ++ R) := by rw [← e1]
  refine this.trans ?_
  rw [List.cons_append]
  exact List.Perm.cons _ (r2 _).symm
theorem takeX_no {s : List S31} {a : Int} (h : takeO s a = false) : takeX s a = z31 := by
  unfold takeX
  rw [h]
  rfl
theorem rturn_is {hs : List (List S31)} (h : HomeS hs) (hm : hs.flatten.length ≤ 1000000) (i a : Int) : rturn (sortL hs.flatten) hs.length i a = ⟨(turnR hs i a).x, (turnR hs i a).stolen, (turnR hs i a).ok, sortL (turnR hs i a).hs.flatten⟩ := by
  have e : ∀ j, ofHome (sortL hs.flatten) hs.length j = hs.getD j [] := fun j => own_filter h hm j
  unfold rturn turnR
  by_cases h0 : i < 0 ∨ (hs.length : Int) ≤ i
  · rw [if_pos h0, if_pos h0]
  · rw [if_neg h0, if_neg h0, e, mostR_is h hm _ (Nat.le_refl _), e]
    unfold turnOwn turnOther
    by_cases h1 : takeO (hs.getD i.toNat []) a = true
    · rw [if_pos h1, if_pos h1, take_sort h hm _ _ h1]
    · rw [if_neg h1, if_neg h1]
      by_cases h2 : mostF hs hs.length = i.toNat
      · rw [if_pos h2, h2, if_neg (by simp)]
      · rw [if_neg h2, decide_eq_true h2, Bool.true_and]
        cases h3 : takeO (hs.getD (mostF hs hs.length) []) a with
        | true => rw [if_pos rfl, take_sort h hm _ _ h3]
        | false =>
          rw [if_neg (by decide), takeX_no h3]
          have : takeL (sortL hs.flatten) hs.length (mostF hs hs.length) a = sortL hs.flatten := by
            unfold takeL
            rw [e, h3, if_neg (by decide)]
          rw [this]
theorem has_is {hs : List (List S31)} (h : HomeS hs) (hm : hs.flatten.length ≤ 1000000) (r : Int) : hasL (sortL hs.flatten) r = hasL (hs.getD (homeOf r hs.length) []) r := by
  obtain ⟨h1, h2⟩ := all_good h hm
  have hj : homeOf r hs.length < hs.length := Nat.mod_lt _ h.pos
  rw [Bool.eq_iff_iff, hasL_true, hasL_true]
  constructor
  · rintro ⟨y, hy, hr⟩
    refine ⟨y, ?_, hr⟩
    obtain ⟨l, hl, hyl⟩ := List.mem_flatten.1 (h2.mem_iff.1 hy)
    obtain ⟨k, hk, rfl⟩ := List.getElem_of_mem hl
    have e : hs[k] = hs.getD k [] := by rw [List.getD_eq_getElem?_getD, List.getElem?_eq_getElem hk]; rfl
    rw [e] at hyl
    have := h.home k y hyl
    rw [hr] at this
    rw [this]
    exact hyl
  · rintro ⟨y, hy, hr⟩
    refine ⟨y, h2.mem_iff.2 (List.mem_flatten.2 ⟨_, List.getElem_mem hj, ?_⟩), hr⟩
    rw [List.getD_eq_getElem?_getD, List.getElem?_eq_getElem hj] at hy
    exact hy
theorem rdrop_is {hs : List (List S31)} (h : HomeS hs) (hm : hs.flatten.length ≤ 1000000) (r : Int) : withoutL (sortL hs.flatten) r = sortL (hs.set (homeOf r hs.length) (withoutL (hs.getD (homeOf r hs.length) []) r)).flatten ∧ decide ((withoutL (sortL hs.flatten) r).length < (sortL hs.flatten).length) = hasL (hs.getD (homeOf r hs.length) []) r := by
  obtain ⟨h1, h2⟩ := all_good h hm
  have hi := has_is h hm r
  cases hh : hasL (hs.getD (homeOf r hs.length) []) r with
  | true =>
    obtain ⟨y, rfl, hp⟩ := drop_perm h (Nat.mod_lt _ h.pos) hh
    refine ⟨(drop_sort h hm hp).symm, decide_eq_true ?_⟩
    have := without_len h1.once (hi.trans hh)
    omega
  | false =>
    rw [drop_none hh, without_self (fun y hy e => hasL_false.1 (hi.trans hh) y hy e.symm)]
    exact ⟨rfl, decide_eq_false (Nat.lt_irrefl _)⟩
theorem rput_is {hs : List (List S31)} (h : HomeS hs) (hm : hs.flatten.length < 1000000) {x : S31} (hx : GoodT x) (hr : ¬ (x.f1 < 0 ∨ x.f1 > 1099511627776)) : (if hasL (sortL hs.flatten) x.f0 = true then (260 : Int) else 0) = putE hs x ∧ pushS (sortL hs.flatten) x = sortL (putS hs x).flatten := by
  obtain ⟨h1, h2⟩ := all_good h (by omega)
  have hi := has_is h (by omega) x.f0
  have e : putE hs x = if hasL (hs.getD (homeOf x.f0 hs.length) []) x.f0 = true then 260 else 0 := by
    unfold putE
    rw [if_neg hr]
  refine ⟨by rw [e, hi], ?_⟩
  cases hh : hasL (hs.getD (homeOf x.f0 hs.length) []) x.f0 with
  | true =>
    rw [hh, if_pos rfl] at e
    rw [put_no (by rw [e]; decide)]
    unfold pushS
    rw [if_pos (hi.trans hh)]
  | false =>
    rw [hh, if_neg (by decide)] at e
    have hp := put_perm h.pos e
    have hn := hi.trans hh
    have hw : pushS (sortL hs.flatten) x = withL (sortL hs.flatten) x := by
      unfold pushS
      rw [if_neg (by rw [hn]; decide)]
    rw [hw]
    refine (sort_is (hp.trans ?_) (good_with h1 hx hn (by rw [h2.length_eq]; exact hm))).symm
    refine (List.perm_append_comm (l₁ := hs.flatten) (l₂ := [x])).trans ?_
    exact (List.Perm.cons x h2.symm).trans (with_perm _ x).symm
theorem same_l (l : List S31) (hm : l.length ≤ 1000000) : ∀ k i : Nat, l.length - i < k → tocsinref26_Same.l0 k l l (i : Int) = some true
  | 0, i, h => absurd h (Nat.not_lt_zero _)
  | k + 1, i, h => by
    unfold tocsinref26_Same.l0
    by_cases hi : i < l.length
    · rw [if_pos (by omega), if_pos (by omega), if_pos (by omega), if_neg (by simp), wrap_nat (by omega), same_l l hm k (i + 1) (by omega)]
    · rw [if_neg (by omega)]
theorem same_calls {w : World} {A A' : Option Addr} {c c' : Nat} {l : List S31} (hm : l.length ≤ 1000000) (hC : Kd.C k31 w A l.length l) (hc : l.length ≤ c) (hC' : Kd.C k31 w A' l.length l) (hc' : l.length ≤ c') :
    Calls Try.prog 20 #[.slice A l.length c, .slice A' l.length c'] w fun e w' => e = .returned (.bool true) ∧ Below w.heap.size w w' := by
  have h : tocsinref26_Same.f (l.length + 1) l l = some true := by
    unfold tocsinref26_Same.f
    rw [if_pos rfl]
    exact same_l l hm (l.length + 1) 0 (by omega)
  refine (tocsinref26_Same.calls (l.length + 1) A c l A' c' l true w hC hc hC' hc' h).mono fun _ _ ⟨e, d⟩ => ⟨e, ?_⟩
  obtain ⟨n, rfl⟩ := d.out
  exact ⟨rfl, rfl, rfl, Nat.le_refl _, fun _ _ => rfl⟩
theorem wr_swap {B : Nat} {w : World} {X Y Z : List Th} (h : Has B w (X ++ (Y ++ Z))) : Has B w (Y ++ (X ++ Z)) := by
  rw [← List.append_assoc] at h ⊢
  exact h.perm (List.perm_append_comm.append_right Z)
theorem put_in {B : Nat} {w : World} {X Y Z : List Th} {T : Th} (h : Has B w (T :: (X ++ (Y ++ Z)))) : Has B w (X ++ (Y ++ (T :: Z))) := by
  rw [← List.append_assoc] at h ⊢
  exact h.perm List.perm_middle.symm
theorem take_out {B : Nat} {w : World} {X Y Z : List Th} {T : Th} (h : Has B w (X ++ (Y ++ (T :: Z)))) : Has B w (T :: (X ++ (Y ++ Z))) := by
  rw [← List.append_assoc] at h ⊢
  exact h.perm List.perm_middle
/-- A store of a task into a row among the things. -/
theorem row_store {B : Nat} {w : World} {Ts : List Th} {g n c : Nat} {l : List S31} (h : Has B w (rowK (.slice (some ⟨g, 0, none⟩) n c) l :: Ts)) (i : Nat) (hi : i < l.length) (x : S31) :
    (∃ l', l'.length = l.length ∧ Has B ((w.setCell ⟨g, i * 2, none⟩ (.int .u32 x.f0)).setCell ⟨g, i * 2 + 1, none⟩ (.int .i64 x.f1)) (rowK (.slice (some ⟨g, 0, none⟩) n c) l' :: Ts)) ∧ Below B w ((w.setCell ⟨g, i * 2, none⟩ (.int .u32 x.f0)).setCell ⟨g, i * 2 + 1, none⟩ (.int .i64 x.f1)) ∧ w.frozen? ⟨g, i * 2, none⟩ = false ∧ w.frozen? ⟨g, i * 2 + 1, none⟩ = false ∧ w.cell? ⟨g, i * 2, none⟩ = some (.int .u32 (rd_T31 l (i : Int)).f0) ∧ w.cell? ⟨g, i * 2 + 1, none⟩ = some (.int .i64 (rd_T31 l (i : Int)).f1) := by
  obtain ⟨F, hR, hFb, put⟩ := h.head
  have hR' : Kd.R k31 31 w 0 F (.slice (some ⟨g, 0, none⟩) n c) l := hR
  obtain ⟨hn, hnc, hC⟩ := Kd.R_reads' hR'
  obtain ⟨ad, e0, h2, h3⟩ := at_T31 hC (i : Int) (by omega) (by omega)
  cases e0
  rw [add_plain, Int.toNat_natCast] at h2
  rw [add_plain, Int.toNat_natCast] at h3
  have h3' : w.cell? ⟨g, i * 2 + 1, none⟩ = some (.int .i64 (rd_T31 l (i : Int)).f1) := h3
  have hg : F g := hR'.1 g rfl
  have s1 := row_set hR' (i : Int) (by omega) (by omega) x
  rw [Int.toNat_natCast] at s1
  obtain ⟨p1, p2⟩ := put _ F (rowK (.slice (some ⟨g, 0, none⟩) n c) (l.set i x)) (((KeepF.refl F w).setCell (.inl hg) _).setCell (.inl hg) _) s1 (fun k hk => ⟨.inl hk, by have := (hFb k hk).2; simpa using this⟩)
  exact ⟨⟨_, by simp, p1⟩, p2, frozen_row hR' _, frozen_row hR' _, h2, h3'⟩
end Go.Proofs.Ytpnoghnhlddjeaa.Wk
namespace Go.Proofs.Ytpnoghnhlddjeaa.Wk
open Go.RowKit Go.Proofs.YtpnoghnhlddjeaaW.PrintWords Go.Proofs.YtpnoghnhlddjeaaW.PrintLast Go.Proofs.YtpnoghnhlddjeaaW.PrintMore Go.Proofs.Ytpnoghnhlddjeaa.Q Go.Proofs.Ytpnoghnhlddjeaa.Own Go.Proofs.Ytpnoghnhlddjeaa.Hp
set_option linter.unusedVariables false
set_option linter.unusedSimpArgs false
attribute [local go_sem ↓] Go.wp_at_zero Go.wp_at_succ

theorem earlier_calls {x y : S31} (hx : GoodT x) (hy : GoodT y) (w : World) :
    Calls Try.prog 40 #[aggT x, aggT y] w fun e w' => e = .returned (.bool (decide (keyT x < keyT y))) ∧ Below w.heap.size w w' := by
  refine tocsinref26_earlier.calls x.f0 x.f1 y.f0 y.f1 _ w ?_
  unfold tocsinref26_earlier.f
  obtain ⟨a, b⟩ := hx
  obtain ⟨c, d⟩ := hy
  unfold keyT
  by_cases h1 : x.f1 < y.f1
  · rw [if_pos h1, decide_eq_true (by omega)]
  · rw [if_neg h1]
    by_cases h2 : x.f1 = y.f1
    · rw [if_pos h2, h2]
      congr 1
      rw [decide_eq_decide]
      omega
    · rw [if_neg h2, decide_eq_false (by omega)]
/-- An append to a row among the things. -/
theorem with_cons (x y : S31) (s : List S31) : withL (y :: s) x = if keyT x < keyT y then x :: y :: s else y :: withL s x := rfl
theorem ref_at {B : Nat} {w : World} {g n c : Nat} {ad : Addr} {L : List S31} {Ts : List Th} (h : Has B w (refL g (.slice (some ad) L.length c) n L ++ Ts)) {k : Nat} (hk : k < L.length) {y0 y1 : Int} (hy : rd_T31 L (k : Int) = ⟨y0, y1⟩) :
    w.cell? ⟨g, 1, none⟩ = some (.slice (some ad) L.length c) ∧ w.cell? (ad.add (k * 2)) = some (.int .u32 y0) ∧ w.cell? ⟨(ad.add (k * 2)).block, (ad.add (k * 2)).off + 1, none⟩ = some (.int .i64 y1) := by
  obtain ⟨-, q1, -, A, c2, ev, -, hC⟩ := ref_cells h
  cases ev
  obtain ⟨ad2, e, h2, h3⟩ := at_T31 hC (k : Int) (by omega) (by omega)
  cases e
  rw [hy, Int.toNat_natCast] at h2 h3
  exact ⟨q1, h2, h3⟩
theorem with_length (L : List S31) (x : S31) : (withL L x).length = L.length + 1 := by rw [(with_perm L x).length_eq, List.length_cons]
/-- What is behind the put's place in the list. -/
def restP (L : List S31) (x : S31) (done : Bool) (k : Nat) : List S31 := if done = true then L.drop k else withL (L.drop k) x
def pushC (L : List S31) (x : S31) : Int := if hasL L x.f0 = true then 260 else 0
theorem push_has {L : List S31} {x : S31} (h : hasL L x.f0 = true) : pushC L x = 260 ∧ pushS L x = L := by
  unfold pushC pushS
  rw [if_pos h, if_pos h]
  exact ⟨rfl, rfl⟩
theorem push_none {L : List S31} {x : S31} (h : ∀ m : Nat, m < L.length → (rd_T31 L (m : Int)).f0 ≠ x.f0) : pushC L x = 0 ∧ pushS L x = withL L x := by
  have h' : hasL L x.f0 = false := hasL_false.2 fun y hy => by
    obtain ⟨m, hm, rfl⟩ := List.getElem_of_mem hy
    have := h m hm
    rwa [rd_nat L hm] at this
  unfold pushC pushS
  rw [if_neg (by rw [h']; decide), if_neg (by rw [h']; decide)]
  exact ⟨rfl, rfl⟩
set_option maxHeartbeats 8000000 in
set_option maxRecDepth 100000 in
theorem rput_new {B : Nat} {w : World} {g n : Nat} {v : Value} {L : List S31} {Ts : List Th} (h : Has B w (refL g v n L ++ Ts)) (hm : L.length ≤ 1000000) (x : S31) (hx : GoodT x) (hg : ∀ y ∈ L, GoodT y) (hlo : ¬ x.f1 < 0) (hhi : ¬ x.f1 > 1099511627776) :
    Calls Try.prog 19 #[ptr g, aggT x] w (RefPost B w g n (pushS L x) Ts (.int .i64 (pushC L x))) := by
  obtain ⟨x0, x1⟩ := x
  have HA0 : Aside0 (Has B (w.alloc (.cells #[.int .u32 x0, .int .i64 x1] 31)) (refL g v n L ++ (rowK (.slice none 0 0) [] :: boxT w.heap.size #[.int .u32 x0, .int .i64 x1] 31 :: Ts))) := ⟨tail_box ((tail_box (h.box #[.int .u32 x0, .int .i64 x1] 31)).row (Below.refl _ _) (Kd.R_nil _ _ _ _ _))⟩
  have HB0 : Aside0 (Below B w (w.alloc (.cells #[.int .u32 x0, .int .i64 x1] 31))) := ⟨(Below.refl B w).alloc h.size _⟩
  have HG := Aside0.mk hg
  have HX := Aside0.mk hx
  have hu := Try.underlying31
  dsimp only at hlo hhi
  have g1 : ¬ 1099511627776 < x1 := hhi
  clear h hg hx
  go_enter Try.func19, Try.ntmps19
  go_wp2_with fail
  generalize w.alloc (.cells #[.int .u32 x0, .int .i64 x1] 31) = w1 at HA0 HB0 ⊢
  generalize w.heap.size = b1 at HA0 ⊢
  clear hlo hhi g1
  go_loopw [7, 6, 5] (fun i d o wr => ∃ (k : Nat) (u : Value) (ys : List S31) (db : Bool), i = .int .i64 k ∧ d = .bool db ∧ u = o ∧ k ≤ L.length ∧ Aside0 (ys ++ restP L ⟨x0, x1⟩ db k = withL L ⟨x0, x1⟩) ∧ Aside0 (∀ m : Nat, m < k → (rd_T31 L (m : Int)).f0 ≠ x0) ∧ Aside0 (Has B wr (refL g v n L ++ (rowK u ys :: boxT b1 #[.int .u32 x0, .int .i64 x1] 31 :: Ts))) ∧ Aside0 (Below B w wr)) (fun i _ _ _ => L.length - (intOf i).toNat)
  case atStart => exact ⟨0, _, [], false, rfl, rfl, rfl, by omega, ⟨rfl⟩, ⟨fun m h => absurd h (Nat.not_lt_zero _)⟩, HA0, HB0⟩
  case round =>
    clear HA0 HB0
    obtain ⟨k, u, ys, db, rfl, rfl, rfl, hk, HY, HN, HA, HB⟩ := hrel
    obtain ⟨q0, q1, f1, A, c, rfl, hc, hC⟩ := ref_cells HA.out
    obtain ⟨qa, -, -, -⟩ := Has.box_cell HA.out (b := b1) (cs := #[.int .u32 x0, .int .i64 x1]) (t := 31) (by simp)
    have b0 : wr.cell? ⟨b1, 0, none⟩ = some (.int .u32 x0) := qa 0
    have b2 : wr.cell? ⟨b1, 1, none⟩ = some (.int .i64 x1) := qa 1
    clear qa hc
    by_cases hlt : k < L.length
    · have d1 : decide ((k : Int) < (L.length : Int)) = true := decide_eq_true (by omega)
      have d2 : decide (0 ≤ (k : Int)) = true := decide_eq_true (by omega)
      have d3 : (k : Int) < (L.length : Int) := by omega
      obtain ⟨ad, rfl, hi2, hi3⟩ := at_T31 hC (k : Int) (by omega) (by omega)
      rw [Int.toNat_natCast] at hi2 hi3
      have hym : rd_T31 L (k : Int) ∈ L := rd_mem hlt
      by_cases hne : (rd_T31 L (k : Int)).f0 = x0
      · have HT : Aside0 (hasL L (⟨x0, x1⟩ : S31).f0 = true) := ⟨hasL_true.2 ⟨_, hym, hne⟩⟩
        clear hym
        generalize rd_T31 L (k : Int) = y at hi2 hi3 hne
        obtain ⟨y0, y1⟩ := y
        dsimp only at hi2 hi3 hne
        have e1 : (y0 == x0) = true := beq_iff_eq.2 hne
        clear hne hC
        go_wp2_with fail
        refine start_ (n := 11) (S := fun w' => w'.cell? ⟨g, 1, none⟩ = some (.slice (some ad) L.length c) ∧ w'.cell? (ad.add (k * 2)) = some (.int .u32 y0) ∧ w'.cell? ⟨b1, 0, none⟩ = some (.int .u32 x0)) (ds := []) #[false, false, false, false, false, false, false, false, false, false, false] (by kernel_rfl) rfl rfl ⟨q1, hi2, b0⟩ (fun hHeld => ?_)
        refine pure_ (i := 0) (N := some 25) (v := ?_) (a' := ?_) #[true, false, false, false, false, false, false, false, false, false, false] rfl rfl (by kernel_rfl) (fun _ _ _ h => h) (Or.inl ⟨by rfl, ?_⟩) ?_ ?_
        rotate_left
        · intro w'
          go_simp
          with_reducible rfl
        rotate_left
        · simp only [Act.put, List.setIfInBounds_toArray, List.set_cons_zero, List.set_cons_succ, i64_w, i32_w]
          rfl
        refine pure_ (i := 1) (N := some 26) (v := ?_) (a' := ?_) #[true, true, false, false, false, false, false, false, false, false, false] rfl rfl (by kernel_rfl) (fun _ _ _ h => h) (Or.inl ⟨by rfl, ?_⟩) ?_ ?_
        rotate_left
        · intro w'
          go_simp
          with_reducible rfl
        rotate_left
        · simp only [Act.put, List.setIfInBounds_toArray, List.set_cons_zero, List.set_cons_succ, i64_w, i32_w]
          rfl
        refine pure_ (i := 2) (N := some 27) (v := ?_) (a' := ?_) #[true, true, true, false, false, false, false, false, false, false, false] rfl rfl (by kernel_rfl) (fun _ _ _ h => h) (Or.inl ⟨by rfl, ?_⟩) ?_ ?_
        rotate_left
        · intro w'
          go_simp
          with_reducible rfl
        rotate_left
        · simp only [Act.put, List.setIfInBounds_toArray, List.set_cons_zero, List.set_cons_succ, i64_w, i32_w]
          rfl
        refine pure_ (i := 4) (N := some 29) (v := ?_) (a' := ?_) #[true, true, true, false, true, false, false, false, false, false, false] rfl rfl (by kernel_rfl) (fun _ _ _ h => h) (Or.inl ⟨by rfl, ?_⟩) ?_ ?_
        rotate_left
        · intro w'
          go_simp
          with_reducible rfl
        rotate_left
        · simp only [Act.put, List.setIfInBounds_toArray, List.set_cons_zero, List.set_cons_succ, i64_w, i32_w]
          rfl
        refine pure_ (i := 8) (N := some 33) (v := ?_) (a' := ?_) #[true, true, true, false, true, false, false, false, true, false, false] rfl rfl (by kernel_rfl) (fun _ _ _ h => h) (Or.inl ⟨by rfl, ?_⟩) ?_ ?_
        rotate_left
        · intro w'
          go_simp
          with_reducible rfl
        rotate_left
        · simp only [Act.put, List.setIfInBounds_toArray, List.set_cons_zero, List.set_cons_succ, i64_w, i32_w]
          rfl
        refine take_ (i := 3) (N := some 28) (v := ?_) (a' := ?_) #[true, true, true, true, true, false, false, false, true, false, false] rfl rfl (by kernel_rfl) (fun _ _ _ h => h) (Or.inl ⟨by rfl, ?_⟩) hHeld ?_ ?_
        rotate_left
        · rintro w' ⟨s0, s1, s2⟩
          go_simp
          with_reducible rfl
        rotate_left
        · simp only [Act.put, List.setIfInBounds_toArray, List.set_cons_zero, List.set_cons_succ, i64_w, i32_w]
          rfl
        refine pure_ (i := 5) (N := some 30) (v := ?_) (a' := ?_) #[true, true, true, true, true, true, false, false, true, false, false] rfl rfl (by kernel_rfl) (fun _ _ _ h => h) (Or.inl ⟨by rfl, ?_⟩) ?_ ?_
        rotate_left
        · intro w'
          go_simp
          with_reducible rfl
        rotate_left
        · simp only [Act.put, List.setIfInBounds_toArray, List.set_cons_zero, List.set_cons_succ, i64_w, i32_w]
          rfl
        refine pure_ (i := 6) (N := some 31) (v := ?_) (a' := ?_) #[true, true, true, true, true, true, true, false, true, false, false] rfl rfl (by kernel_rfl) (fun _ _ _ h => h) (Or.inl ⟨by rfl, ?_⟩) ?_ ?_
        rotate_left
        · intro w'
          go_simp
          with_reducible rfl
        rotate_left
        · simp only [Act.put, List.setIfInBounds_toArray, List.set_cons_zero, List.set_cons_succ, i64_w, i32_w]
          rfl
        refine take_ (i := 7) (N := some 32) (v := ?_) (a' := ?_) #[true, true, true, true, true, true, true, true, true, false, false] rfl rfl (by kernel_rfl) (fun _ _ _ h => h) (Or.inl ⟨by rfl, ?_⟩) hHeld ?_ ?_
        rotate_left
        · rintro w' ⟨s0, s1, s2⟩
          go_simp
          with_reducible rfl
        rotate_left
        · simp only [Act.put, List.setIfInBounds_toArray, List.set_cons_zero, List.set_cons_succ, i64_w, i32_w]
          rfl
        refine take_ (i := 9) (N := some 34) (v := ?_) (a' := ?_) #[true, true, true, true, true, true, true, true, true, true, false] rfl rfl (by kernel_rfl) (fun _ _ _ h => h) (Or.inl ⟨by rfl, ?_⟩) hHeld ?_ ?_
        rotate_left
        · rintro w' ⟨s0, s1, s2⟩
          go_simp
          with_reducible rfl
        rotate_left
        · simp only [Act.put, List.setIfInBounds_toArray, List.set_cons_zero, List.set_cons_succ, i64_w, i32_w]
          rfl
        refine pure_ (i := 10) (N := some 35) (v := ?_) (a' := ?_) #[true, true, true, true, true, true, true, true, true, true, true] rfl rfl (by kernel_rfl) (fun _ _ _ h => h) (Or.inl ⟨by rfl, ?_⟩) ?_ ?_
        rotate_left
        · intro w'
          go_simp
          with_reducible rfl
        rotate_left
        · simp only [Act.put, List.setIfInBounds_toArray, List.set_cons_zero, List.set_cons_succ, i64_w, i32_w]
          rfl
        refine done_ (by kernel_rfl) ?_

        go_wp2_with fail
        go_ret
        refine ⟨.slice (some ad) L.length c, by rw [(push_has HT.out).1]; rfl, ?_, HB.out.trans (below_drew (Below.refl _ _))⟩
        rw [(push_has HT.out).2]
        exact (head_box (head_box HA.out.drew).tail).tail
      have HN2 : Aside0 (∀ m : Nat, m < k + 1 → (rd_T31 L (m : Int)).f0 ≠ x0) := ⟨fun m h => by
        rcases Nat.lt_succ_iff_lt_or_eq.1 h with h | rfl
        · exact HN.out m h
        · exact hne⟩
      have hyg := HG.out _ hym
      have hdr := drop_nat L hlt
      generalize hyq : rd_T31 L (k : Int) = y at hi2 hi3 hne hyg hdr
      have HE := Aside0.mk (fun w => earlier_calls HX.out hyg w)
      have HDR := Aside0.mk hdr
      obtain ⟨y0, y1⟩ := y
      dsimp only at hi2 hi3 hne
      have e1 : (y0 == x0) = false := beq_eq_false_iff_ne.2 hne
      have HYQ := Aside0.mk hyq
      have HLW : Aside0 (ys.length ≤ 1000001) := ⟨by have h1 := congrArg List.length HY.out; rw [List.length_append, with_length] at h1; omega⟩
      clear hym hyg hne hdr hC hyq
      go_wp2_with fail
      refine start_ (n := 11) (S := fun w' => w'.cell? ⟨g, 1, none⟩ = some (.slice (some ad) L.length c) ∧ w'.cell? (ad.add (k * 2)) = some (.int .u32 y0) ∧ w'.cell? ⟨b1, 0, none⟩ = some (.int .u32 x0)) (ds := []) #[false, false, false, false, false, false, false, false, false, false, false] (by kernel_rfl) rfl rfl ⟨q1, hi2, b0⟩ (fun hHeld => ?_)
      refine pure_ (i := 0) (N := some 25) (v := ?_) (a' := ?_) #[true, false, false, false, false, false, false, false, false, false, false] rfl rfl (by kernel_rfl) (fun _ _ _ h => h) (Or.inl ⟨by rfl, ?_⟩) ?_ ?_
      rotate_left
      · intro w'
        go_simp
        with_reducible rfl
      rotate_left
      · simp only [Act.put, List.setIfInBounds_toArray, List.set_cons_zero, List.set_cons_succ, i64_w, i32_w]
        rfl
      refine pure_ (i := 1) (N := some 26) (v := ?_) (a' := ?_) #[true, true, false, false, false, false, false, false, false, false, false] rfl rfl (by kernel_rfl) (fun _ _ _ h => h) (Or.inl ⟨by rfl, ?_⟩) ?_ ?_
      rotate_left
      · intro w'
        go_simp
        with_reducible rfl
      rotate_left
      · simp only [Act.put, List.setIfInBounds_toArray, List.set_cons_zero, List.set_cons_succ, i64_w, i32_w]
        rfl
      refine pure_ (i := 2) (N := some 27) (v := ?_) (a' := ?_) #[true, true, true, false, false, false, false, false, false, false, false] rfl rfl (by kernel_rfl) (fun _ _ _ h => h) (Or.inl ⟨by rfl, ?_⟩) ?_ ?_
      rotate_left
      · intro w'
        go_simp
        with_reducible rfl
      rotate_left
      · simp only [Act.put, List.setIfInBounds_toArray, List.set_cons_zero, List.set_cons_succ, i64_w, i32_w]
        rfl
      refine pure_ (i := 4) (N := some 29) (v := ?_) (a' := ?_) #[true, true, true, false, true, false, false, false, false, false, false] rfl rfl (by kernel_rfl) (fun _ _ _ h => h) (Or.inl ⟨by rfl, ?_⟩) ?_ ?_
      rotate_left
      · intro w'
        go_simp
        with_reducible rfl
      rotate_left
      · simp only [Act.put, List.setIfInBounds_toArray, List.set_cons_zero, List.set_cons_succ, i64_w, i32_w]
        rfl
      refine pure_ (i := 8) (N := some 33) (v := ?_) (a' := ?_) #[true, true, true, false, true, false, false, false, true, false, false] rfl rfl (by kernel_rfl) (fun _ _ _ h => h) (Or.inl ⟨by rfl, ?_⟩) ?_ ?_
      rotate_left
      · intro w'
        go_simp
        with_reducible rfl
      rotate_left
      · simp only [Act.put, List.setIfInBounds_toArray, List.set_cons_zero, List.set_cons_succ, i64_w, i32_w]
        rfl
      refine take_ (i := 3) (N := some 28) (v := ?_) (a' := ?_) #[true, true, true, true, true, false, false, false, true, false, false] rfl rfl (by kernel_rfl) (fun _ _ _ h => h) (Or.inl ⟨by rfl, ?_⟩) hHeld ?_ ?_
      rotate_left
      · rintro w' ⟨s0, s1, s2⟩
        go_simp
        with_reducible rfl
      rotate_left
      · simp only [Act.put, List.setIfInBounds_toArray, List.set_cons_zero, List.set_cons_succ, i64_w, i32_w]
        rfl
      refine pure_ (i := 5) (N := some 30) (v := ?_) (a' := ?_) #[true, true, true, true, true, true, false, false, true, false, false] rfl rfl (by kernel_rfl) (fun _ _ _ h => h) (Or.inl ⟨by rfl, ?_⟩) ?_ ?_
      rotate_left
      · intro w'
        go_simp
        with_reducible rfl
      rotate_left
      · simp only [Act.put, List.setIfInBounds_toArray, List.set_cons_zero, List.set_cons_succ, i64_w, i32_w]
        rfl
      refine pure_ (i := 6) (N := some 31) (v := ?_) (a' := ?_) #[true, true, true, true, true, true, true, false, true, false, false] rfl rfl (by kernel_rfl) (fun _ _ _ h => h) (Or.inl ⟨by rfl, ?_⟩) ?_ ?_
      rotate_left
      · intro w'
        go_simp
        with_reducible rfl
      rotate_left
      · simp only [Act.put, List.setIfInBounds_toArray, List.set_cons_zero, List.set_cons_succ, i64_w, i32_w]
        rfl
      refine take_ (i := 7) (N := some 32) (v := ?_) (a' := ?_) #[true, true, true, true, true, true, true, true, true, false, false] rfl rfl (by kernel_rfl) (fun _ _ _ h => h) (Or.inl ⟨by rfl, ?_⟩) hHeld ?_ ?_
      rotate_left
      · rintro w' ⟨s0, s1, s2⟩
        go_simp
        with_reducible rfl
      rotate_left
      · simp only [Act.put, List.setIfInBounds_toArray, List.set_cons_zero, List.set_cons_succ, i64_w, i32_w]
        rfl
      refine take_ (i := 9) (N := some 34) (v := ?_) (a' := ?_) #[true, true, true, true, true, true, true, true, true, true, false] rfl rfl (by kernel_rfl) (fun _ _ _ h => h) (Or.inl ⟨by rfl, ?_⟩) hHeld ?_ ?_
      rotate_left
      · rintro w' ⟨s0, s1, s2⟩
        go_simp
        with_reducible rfl
      rotate_left
      · simp only [Act.put, List.setIfInBounds_toArray, List.set_cons_zero, List.set_cons_succ, i64_w, i32_w]
        rfl
      refine pure_ (i := 10) (N := some 35) (v := ?_) (a' := ?_) #[true, true, true, true, true, true, true, true, true, true, true] rfl rfl (by kernel_rfl) (fun _ _ _ h => h) (Or.inl ⟨by rfl, ?_⟩) ?_ ?_
      rotate_left
      · intro w'
        go_simp
        with_reducible rfl
      rotate_left
      · simp only [Act.put, List.setIfInBounds_toArray, List.set_cons_zero, List.set_cons_succ, i64_w, i32_w]
        rfl
      refine done_ (by kernel_rfl) ?_

      have HA1 := Aside0.mk HA.out.drew
      have HB1 : Aside0 (Below B w wr.drew) := ⟨HB.out.trans (below_drew (Below.refl _ _))⟩
      have q1' : wr.drew.cell? ⟨g, 1, none⟩ = some (.slice (some ad) L.length c) := q1
      have h2' : wr.drew.cell? (ad.add (k * 2)) = some (.int .u32 y0) := hi2
      have h3' : wr.drew.cell? ⟨(ad.add (k * 2)).block, (ad.add (k * 2)).off + 1, none⟩ = some (.int .i64 y1) := hi3
      have b0' : wr.drew.cell? ⟨b1, 0, none⟩ = some (.int .u32 x0) := b0
      have b2' : wr.drew.cell? ⟨b1, 1, none⟩ = some (.int .i64 x1) := b2
      clear q0 q1 hi2 hi3 b0 b2 HA HB f1 e1
      generalize wr.drew = w2 at HA1 HB1 q1' h2' h3' b0' b2' ⊢
      go_wp2_with fail
      cases db
      · skip
        refine start_ (n := 13) (S := fun w' => w'.cell? ⟨g, 1, none⟩ = some (.slice (some ad) L.length c) ∧ w'.cell? (ad.add (k * 2)) = some (.int .u32 y0) ∧ w'.cell? ⟨(ad.add (k * 2)).block, (ad.add (k * 2)).off + 1, none⟩ = some (.int .i64 y1) ∧ w'.cell? ⟨b1, 0, none⟩ = some (.int .u32 x0) ∧ w'.cell? ⟨b1, 1, none⟩ = some (.int .i64 x1)) (ds := []) #[false, false, false, false, false, false, false, false, false, false, false, false, false] (by kernel_rfl) rfl rfl ⟨q1', h2', h3', b0', b2'⟩ (fun hHeld => ?_)
        refine pure_ (i := 0) (N := some 36) (v := ?_) (a' := ?_) #[true, false, false, false, false, false, false, false, false, false, false, false, false] rfl rfl (by kernel_rfl) (fun _ _ _ h => h) (Or.inl ⟨by rfl, ?_⟩) ?_ ?_
        rotate_left
        · intro w'
          go_simp
          with_reducible rfl
        rotate_left
        · simp only [Act.put, List.setIfInBounds_toArray, List.set_cons_zero, List.set_cons_succ, i64_w, i32_w]
          rfl
        refine pure_ (i := 1) (N := some 37) (v := ?_) (a' := ?_) #[true, true, false, false, false, false, false, false, false, false, false, false, false] rfl rfl (by kernel_rfl) (fun _ _ _ h => h) (Or.inl ⟨by rfl, ?_⟩) ?_ ?_
        rotate_left
        · intro w'
          go_simp
          with_reducible rfl
        rotate_left
        · simp only [Act.put, List.setIfInBounds_toArray, List.set_cons_zero, List.set_cons_succ, i64_w, i32_w]
          rfl
        refine pure_ (i := 2) (N := some 38) (v := ?_) (a' := ?_) #[true, true, true, false, false, false, false, false, false, false, false, false, false] rfl rfl (by kernel_rfl) (fun _ _ _ h => h) (Or.inl ⟨by rfl, ?_⟩) ?_ ?_
        rotate_left
        · intro w'
          go_simp
          with_reducible rfl
        rotate_left
        · simp only [Act.put, List.setIfInBounds_toArray, List.set_cons_zero, List.set_cons_succ, i64_w, i32_w]
          rfl
        refine pure_ (i := 4) (N := some 40) (v := ?_) (a' := ?_) #[true, true, true, false, true, false, false, false, false, false, false, false, false] rfl rfl (by kernel_rfl) (fun _ _ _ h => h) (Or.inl ⟨by rfl, ?_⟩) ?_ ?_
        rotate_left
        · intro w'
          go_simp
          with_reducible rfl
        rotate_left
        · simp only [Act.put, List.setIfInBounds_toArray, List.set_cons_zero, List.set_cons_succ, i64_w, i32_w]
          rfl
        refine pure_ (i := 5) (N := some 41) (v := ?_) (a' := ?_) #[true, true, true, false, true, true, false, false, false, false, false, false, false] rfl rfl (by kernel_rfl) (fun _ _ _ h => h) (Or.inl ⟨by rfl, ?_⟩) ?_ ?_
        rotate_left
        · intro w'
          go_simp
          with_reducible rfl
        rotate_left
        · simp only [Act.put, List.setIfInBounds_toArray, List.set_cons_zero, List.set_cons_succ, i64_w, i32_w]
          rfl
        refine pure_ (i := 6) (N := some 42) (v := ?_) (a' := ?_) #[true, true, true, false, true, true, true, false, false, false, false, false, false] rfl rfl (by kernel_rfl) (fun _ _ _ h => h) (Or.inl ⟨by rfl, ?_⟩) ?_ ?_
        rotate_left
        · intro w'
          go_simp
          with_reducible rfl
        rotate_left
        · simp only [Act.put, List.setIfInBounds_toArray, List.set_cons_zero, List.set_cons_succ, i64_w, i32_w]
          rfl
        refine pure_ (i := 8) (N := some 44) (v := ?_) (a' := ?_) #[true, true, true, false, true, true, true, false, true, false, false, false, false] rfl rfl (by kernel_rfl) (fun _ _ _ h => h) (Or.inl ⟨by rfl, ?_⟩) ?_ ?_
        rotate_left
        · intro w'
          go_simp
          with_reducible rfl
        rotate_left
        · simp only [Act.put, List.setIfInBounds_toArray, List.set_cons_zero, List.set_cons_succ, i64_w, i32_w]
          rfl
        refine take_ (i := 3) (N := some 39) (v := ?_) (a' := ?_) #[true, true, true, true, true, true, true, false, true, false, false, false, false] rfl rfl (by kernel_rfl) (fun _ _ _ h => h) (Or.inl ⟨by rfl, ?_⟩) hHeld ?_ ?_
        rotate_left
        · rintro w' ⟨s0, s1, s2, s3, s4⟩
          go_simp
          with_reducible rfl
        rotate_left
        · simp only [Act.put, List.setIfInBounds_toArray, List.set_cons_zero, List.set_cons_succ, i64_w, i32_w]
          rfl
        refine take_ (i := 7) (N := some 43) (v := ?_) (a' := ?_) #[true, true, true, true, true, true, true, true, true, false, false, false, false] rfl rfl (by kernel_rfl) (fun _ _ _ h => h) (Or.inl ⟨by rfl, ?_⟩) hHeld ?_ ?_
        rotate_left
        · rintro w' ⟨s0, s1, s2, s3, s4⟩
          go_simp
          with_reducible rfl
        rotate_left
        · simp only [Act.put, List.setIfInBounds_toArray, List.set_cons_zero, List.set_cons_succ, i64_w, i32_w]
          rfl
        refine pure_ (i := 9) (N := some 45) (v := ?_) (a' := ?_) #[true, true, true, true, true, true, true, true, true, true, false, false, false] rfl rfl (by kernel_rfl) (fun _ _ _ h => h) (Or.inl ⟨by rfl, ?_⟩) ?_ ?_
        rotate_left
        · intro w'
          go_simp
          with_reducible rfl
        rotate_left
        · simp only [Act.put, List.setIfInBounds_toArray, List.set_cons_zero, List.set_cons_succ, i64_w, i32_w]
          rfl
        refine take_ (i := 10) (N := some 46) (v := ?_) (a' := ?_) #[true, true, true, true, true, true, true, true, true, true, true, false, false] rfl rfl (by kernel_rfl) (fun _ _ _ h => h) (Or.inl ⟨by rfl, ?_⟩) hHeld ?_ ?_
        rotate_left
        · rintro w' ⟨s0, s1, s2, s3, s4⟩
          go_simp
          with_reducible rfl
        rotate_left
        · simp only [Act.put, List.setIfInBounds_toArray, List.set_cons_zero, List.set_cons_succ, i64_w, i32_w]
          rfl
        refine one_ (i := 11) (N := some 47) #[true, true, true, true, true, true, true, true, true, true, true, true, false] rfl rfl (by kernel_rfl) (by decide) (fun K hK => ?_)
        refine goes_ Try.func40 (by kernel_rfl) rfl #[.agg #[.int .u32 x0, .int .i64 x1], .agg #[.int .u32 y0, .int .i64 y1]] (by rfl) rfl rfl (by simp only [List.map_toArray, List.map_cons, List.map_nil]; rfl) ?_
        with_reducible refine (HE.out w2.drew).mono ?_
        rintro e w3 ⟨rfl, hb3⟩
        refine ⟨_, rfl, ?_⟩
        have s0 := pw_cell_below hb3 (show w2.drew.cell? _ = _ from q1')
        have s1 := pw_cell_below hb3 (show w2.drew.cell? _ = _ from h2')
        have s2 := pw_cell_below hb3 (show w2.drew.cell? _ = _ from h3')
        have s3 := pw_cell_below hb3 (show w2.drew.cell? _ = _ from b0')
        have s4 := pw_cell_below hb3 (show w2.drew.cell? _ = _ from b2')
        refine hK.out _ _ ⟨s0, s1, s2, s3, s4⟩ (fun hHeld => ?_)
        clear hK K
        refine norm_ (a' := ?_) ?_ ?_
        rotate_left
        · show Act.put _ (some 47) _ = _
          simp only [Act.put, List.setIfInBounds_toArray, List.set_cons_zero, List.set_cons_succ, i64_w, i32_w]
          rfl
        refine pure_ (i := 12) (N := some 48) (v := ?_) (a' := ?_) #[true, true, true, true, true, true, true, true, true, true, true, true, true] rfl rfl (by kernel_rfl) (fun _ _ _ h => h) (Or.inl ⟨by rfl, ?_⟩) ?_ ?_
        rotate_left
        · intro w'
          go_simp
          with_reducible rfl
        rotate_left
        · simp only [Act.put, List.setIfInBounds_toArray, List.set_cons_zero, List.set_cons_succ, i64_w, i32_w]
          rfl
        refine done_ (by kernel_rfl) ?_

        have HA3 := Aside0.mk (HA1.out.drew.below hb3)
        have HB3 : Aside0 (Below B w w3) := ⟨HB1.out.trans (Below.trans (below_drew (Below.refl _ _)) (hb3.mono HA1.out.drew.size))⟩
        clear hb3 q1' h2' h3' b0' b2' HA1 HB1 HE
        by_cases hlt2 : keyT (⟨x0, x1⟩ : S31) < keyT ⟨y0, y1⟩
        · skip
          rw [decide_eq_true hlt2]
          have HY2 : Aside0 ((ys ++ [⟨x0, x1⟩] ++ [⟨y0, y1⟩]) ++ restP L ⟨x0, x1⟩ true (k + 1) = withL L ⟨x0, x1⟩) := ⟨by
            have h := HY.out
            unfold restP at h ⊢
            rw [if_neg (by decide), HDR.out, with_cons, if_pos hlt2] at h
            rw [if_pos rfl, ← h]
            simp⟩
          clear hlt2
          obtain ⟨qa, -, -, -⟩ := Has.box_cell HA3.out (b := b1) (cs := #[.int .u32 x0, .int .i64 x1]) (t := 31) (by simp)
          have b0 : w3.cell? ⟨b1, 0, none⟩ = some (.int .u32 x0) := qa 0
          have b2 : w3.cell? ⟨b1, 1, none⟩ = some (.int .i64 x1) := qa 1
          clear qa
          obtain ⟨F1, hr, hFb, put⟩ := (head_box HA3.out).head
          have HR1 := Aside0.mk (Kd.R_mono (ok' := fun k => F1 k ∨ w3.heap.size ≤ k) (show Kd.R k31 31 w3 0 F1 u (ys) from hr) (fun k hk => .inl hk))
          have HV1 := Aside0.mk (show ∀ k, (u : Value).ownBlock = some k → F1 k from hr.1)
          have HFB1 := Aside0.mk hFb
          have PUT1 := Aside0.mk put
          clear hr hFb put
          go_wp2_with (first | (refine Kd.R_append k31 (w0 := w3) (W := w3) 0 rfl _ _ 22 31 (.agg #[.int .u32 0, .int .i64 0]) 16 rfl Try.underlying22 info31 rfl (by decide) (by decide) (u) (ys) ⟨x0, x1⟩ [.int .u32 x0, .int .i64 x1] (fun k => F1 k ∨ w3.heap.size ≤ k) (fun _ => False) rfl rfl (k31_mkM _ _ _ _) (fun _ f => f.elim) (fun k hk => .inr hk) HR1.out (Below.refl _ _) (Nat.zero_le _) (by have := HLW.out; simp; omega) ?_; rintro v5 w5 hr5 - hg5 -; have HRG1 := Aside0.mk (row_grown HFB1.out PUT1.out HV1.out hg5 hr5); clear hr5 hg5; have HA7 := Aside0.mk (tail_box HRG1.out.1); have HB7 := Aside0.mk (HB3.out.trans HRG1.out.2); clear HRG1 HR1 HV1 HFB1 PUT1; clear b0 b2 HA3 HB3; obtain ⟨q1, h2, h3⟩ := ref_at HA7.out hlt HYQ.out; obtain ⟨F2, hr, hFb, put⟩ := (head_box HA7.out).head; have HR2 := Aside0.mk (Kd.R_mono (ok' := fun k => F2 k ∨ w5.heap.size ≤ k) (show Kd.R k31 31 w5 0 F2 v5 (ys ++ [⟨x0, x1⟩]) from hr) (fun k hk => .inl hk)); have HV2 := Aside0.mk (show ∀ k, (v5 : Value).ownBlock = some k → F2 k from hr.1); have HFB2 := Aside0.mk hFb; have PUT2 := Aside0.mk put; clear hr hFb put) | (refine Kd.R_append k31 (w0 := w5) (W := w5) 0 rfl _ _ 22 31 (.agg #[.int .u32 0, .int .i64 0]) 16 rfl Try.underlying22 info31 rfl (by decide) (by decide) (v5) (ys ++ [⟨x0, x1⟩]) ⟨y0, y1⟩ [.int .u32 y0, .int .i64 y1] (fun k => F2 k ∨ w5.heap.size ≤ k) (fun _ => False) rfl rfl (k31_mkM _ _ _ _) (fun _ f => f.elim) (fun k hk => .inr hk) HR2.out (Below.refl _ _) (Nat.zero_le _) (by have := HLW.out; simp; omega) ?_; rintro v6 w6 hr5 - hg5 -; have HRG2 := Aside0.mk (row_grown HFB2.out PUT2.out HV2.out hg5 hr5); clear hr5 hg5; have HA9 := Aside0.mk (tail_box HRG2.out.1); have HB9 := Aside0.mk (HB7.out.trans HRG2.out.2); clear HRG2 HR2 HV2 HFB2 PUT2))
          clear q1 h2 h3 HA7 HB7
          go_roundw
          case rel => exact ⟨k + 1, _, _, true, rfl, rfl, rfl, by omega, HY2, HN2, HA9, HB9⟩
          case measure => simp [intOf]; omega
        · skip
          rw [decide_eq_false hlt2]
          have HY2 : Aside0 ((ys ++ [⟨y0, y1⟩]) ++ restP L ⟨x0, x1⟩ false (k + 1) = withL L ⟨x0, x1⟩) := ⟨by
            have h := HY.out
            unfold restP at h ⊢
            rw [if_neg (by decide), HDR.out, with_cons, if_neg hlt2] at h
            rw [if_neg (by decide), ← h]
            simp⟩
          clear hlt2
          obtain ⟨q1, h2, h3⟩ := ref_at HA3.out hlt HYQ.out
          obtain ⟨F1, hr, hFb, put⟩ := (head_box HA3.out).head
          have HR1 := Aside0.mk (Kd.R_mono (ok' := fun k => F1 k ∨ w3.heap.size ≤ k) (show Kd.R k31 31 w3 0 F1 u (ys) from hr) (fun k hk => .inl hk))
          have HV1 := Aside0.mk (show ∀ k, (u : Value).ownBlock = some k → F1 k from hr.1)
          have HFB1 := Aside0.mk hFb
          have PUT1 := Aside0.mk put
          clear hr hFb put
          go_wp2_with (refine Kd.R_append k31 (w0 := w3) (W := w3) 0 rfl _ _ 22 31 (.agg #[.int .u32 0, .int .i64 0]) 16 rfl Try.underlying22 info31 rfl (by decide) (by decide) (u) (ys) ⟨y0, y1⟩ [.int .u32 y0, .int .i64 y1] (fun k => F1 k ∨ w3.heap.size ≤ k) (fun _ => False) rfl rfl (k31_mkM _ _ _ _) (fun _ f => f.elim) (fun k hk => .inr hk) HR1.out (Below.refl _ _) (Nat.zero_le _) (by have := HLW.out; simp; omega) ?_; rintro v6 w6 hr5 - hg5 -; have HRG1 := Aside0.mk (row_grown HFB1.out PUT1.out HV1.out hg5 hr5); clear hr5 hg5; have HA9 := Aside0.mk (tail_box HRG1.out.1); have HB9 := Aside0.mk (HB3.out.trans HRG1.out.2); clear HRG1 HR1 HV1 HFB1 PUT1)
          clear q1 h2 h3 HA3 HB3
          go_roundw
          case rel => exact ⟨k + 1, _, _, false, rfl, rfl, rfl, by omega, HY2, HN2, HA9, HB9⟩
          case measure => simp [intOf]; omega
      · skip
        refine start_ (n := 13) (S := fun w' => True) (ds := []) #[false, false, false, false, false, false, false, false, false, false, false, false, false] (by kernel_rfl) rfl rfl trivial (fun hHeld => ?_)
        refine pure_ (i := 0) (N := some 36) (v := ?_) (a' := ?_) #[true, false, false, false, false, false, false, false, false, false, false, false, false] rfl rfl (by kernel_rfl) (fun _ _ _ h => h) (Or.inl ⟨by rfl, ?_⟩) ?_ ?_
        rotate_left
        · intro w'
          go_simp
          with_reducible rfl
        rotate_left
        · simp only [Act.put, List.setIfInBounds_toArray, List.set_cons_zero, List.set_cons_succ, i64_w, i32_w]
          rfl
        refine pure_ (i := 1) (N := some 37) (v := ?_) (a' := ?_) #[true, true, false, false, false, false, false, false, false, false, false, false, false] rfl rfl (by kernel_rfl) (fun _ _ _ h => h) (Or.inl ⟨by rfl, ?_⟩) ?_ ?_
        rotate_left
        · intro w'
          go_simp
          with_reducible rfl
        rotate_left
        · simp only [Act.put, List.setIfInBounds_toArray, List.set_cons_zero, List.set_cons_succ, i64_w, i32_w]
          rfl
        refine pure_ (i := 2) (N := some 38) (v := ?_) (a' := ?_) #[true, true, true, false, false, false, false, false, false, false, false, false, false] rfl rfl (by kernel_rfl) (fun _ _ _ h => h) (Or.inl ⟨by rfl, ?_⟩) ?_ ?_
        rotate_left
        · intro w'
          go_simp
          with_reducible rfl
        rotate_left
        · simp only [Act.put, List.setIfInBounds_toArray, List.set_cons_zero, List.set_cons_succ, i64_w, i32_w]
          rfl
        refine pure_ (i := 3) (N := some 39) (v := undef) (a' := ?_) #[true, true, true, true, false, false, false, false, false, false, false, false, false] rfl rfl (by kernel_rfl) (fun _ _ _ h => h) (Or.inr ⟨by rfl, rfl⟩) ?_ ?_
        rotate_left
        · simp only [Act.put, List.setIfInBounds_toArray, List.set_cons_zero, List.set_cons_succ, i64_w, i32_w]
          rfl
        refine pure_ (i := 4) (N := some 40) (v := undef) (a' := ?_) #[true, true, true, true, true, false, false, false, false, false, false, false, false] rfl rfl (by kernel_rfl) (fun _ _ _ h => h) (Or.inr ⟨by rfl, rfl⟩) ?_ ?_
        rotate_left
        · simp only [Act.put, List.setIfInBounds_toArray, List.set_cons_zero, List.set_cons_succ, i64_w, i32_w]
          rfl
        refine pure_ (i := 5) (N := some 41) (v := undef) (a' := ?_) #[true, true, true, true, true, true, false, false, false, false, false, false, false] rfl rfl (by kernel_rfl) (fun _ _ _ h => h) (Or.inr ⟨by rfl, rfl⟩) ?_ ?_
        rotate_left
        · simp only [Act.put, List.setIfInBounds_toArray, List.set_cons_zero, List.set_cons_succ, i64_w, i32_w]
          rfl
        refine pure_ (i := 6) (N := some 42) (v := undef) (a' := ?_) #[true, true, true, true, true, true, true, false, false, false, false, false, false] rfl rfl (by kernel_rfl) (fun _ _ _ h => h) (Or.inr ⟨by rfl, rfl⟩) ?_ ?_
        rotate_left
        · simp only [Act.put, List.setIfInBounds_toArray, List.set_cons_zero, List.set_cons_succ, i64_w, i32_w]
          rfl
        refine pure_ (i := 7) (N := some 43) (v := undef) (a' := ?_) #[true, true, true, true, true, true, true, true, false, false, false, false, false] rfl rfl (by kernel_rfl) (fun _ _ _ h => h) (Or.inr ⟨by rfl, rfl⟩) ?_ ?_
        rotate_left
        · simp only [Act.put, List.setIfInBounds_toArray, List.set_cons_zero, List.set_cons_succ, i64_w, i32_w]
          rfl
        refine pure_ (i := 8) (N := some 44) (v := undef) (a' := ?_) #[true, true, true, true, true, true, true, true, true, false, false, false, false] rfl rfl (by kernel_rfl) (fun _ _ _ h => h) (Or.inr ⟨by rfl, rfl⟩) ?_ ?_
        rotate_left
        · simp only [Act.put, List.setIfInBounds_toArray, List.set_cons_zero, List.set_cons_succ, i64_w, i32_w]
          rfl
        refine pure_ (i := 9) (N := some 45) (v := undef) (a' := ?_) #[true, true, true, true, true, true, true, true, true, true, false, false, false] rfl rfl (by kernel_rfl) (fun _ _ _ h => h) (Or.inr ⟨by rfl, rfl⟩) ?_ ?_
        rotate_left
        · simp only [Act.put, List.setIfInBounds_toArray, List.set_cons_zero, List.set_cons_succ, i64_w, i32_w]
          rfl
        refine pure_ (i := 10) (N := some 46) (v := undef) (a' := ?_) #[true, true, true, true, true, true, true, true, true, true, true, false, false] rfl rfl (by kernel_rfl) (fun _ _ _ h => h) (Or.inr ⟨by rfl, rfl⟩) ?_ ?_
        rotate_left
        · simp only [Act.put, List.setIfInBounds_toArray, List.set_cons_zero, List.set_cons_succ, i64_w, i32_w]
          rfl
        refine pure_ (i := 11) (N := some 47) (v := undef) (a' := ?_) #[true, true, true, true, true, true, true, true, true, true, true, true, false] rfl rfl (by kernel_rfl) (fun _ _ _ h => h) (Or.inr ⟨by rfl, rfl⟩) ?_ ?_
        rotate_left
        · simp only [Act.put, List.setIfInBounds_toArray, List.set_cons_zero, List.set_cons_succ, i64_w, i32_w]
          rfl
        refine pure_ (i := 12) (N := some 48) (v := ?_) (a' := ?_) #[true, true, true, true, true, true, true, true, true, true, true, true, true] rfl rfl (by kernel_rfl) (fun _ _ _ h => h) (Or.inl ⟨by rfl, ?_⟩) ?_ ?_
        rotate_left
        · intro w'
          go_simp
          with_reducible rfl
        rotate_left
        · simp only [Act.put, List.setIfInBounds_toArray, List.set_cons_zero, List.set_cons_succ, i64_w, i32_w]
          rfl
        refine done_ (by kernel_rfl) ?_

        have HA3 := Aside0.mk HA1.out.drew
        have HB3 : Aside0 (Below B w w2.drew) := ⟨HB1.out.trans (below_drew (Below.refl _ _))⟩
        clear q1' h2' h3' b0' b2' HA1 HB1 HE
        generalize w2.drew = w3 at HA3 HB3 ⊢
        have HY2 : Aside0 ((ys ++ [⟨y0, y1⟩]) ++ restP L ⟨x0, x1⟩ true (k + 1) = withL L ⟨x0, x1⟩) := ⟨by
          have h := HY.out
          unfold restP at h ⊢
          rw [if_pos rfl, HDR.out] at h
          rw [if_pos rfl, ← h]
          simp⟩
        obtain ⟨q1, h2, h3⟩ := ref_at HA3.out hlt HYQ.out
        obtain ⟨F1, hr, hFb, put⟩ := (head_box HA3.out).head
        have HR1 := Aside0.mk (Kd.R_mono (ok' := fun k => F1 k ∨ w3.heap.size ≤ k) (show Kd.R k31 31 w3 0 F1 u (ys) from hr) (fun k hk => .inl hk))
        have HV1 := Aside0.mk (show ∀ k, (u : Value).ownBlock = some k → F1 k from hr.1)
        have HFB1 := Aside0.mk hFb
        have PUT1 := Aside0.mk put
        clear hr hFb put
        go_wp2_with (refine Kd.R_append k31 (w0 := w3) (W := w3) 0 rfl _ _ 22 31 (.agg #[.int .u32 0, .int .i64 0]) 16 rfl Try.underlying22 info31 rfl (by decide) (by decide) (u) (ys) ⟨y0, y1⟩ [.int .u32 y0, .int .i64 y1] (fun k => F1 k ∨ w3.heap.size ≤ k) (fun _ => False) rfl rfl (k31_mkM _ _ _ _) (fun _ f => f.elim) (fun k hk => .inr hk) HR1.out (Below.refl _ _) (Nat.zero_le _) (by have := HLW.out; simp; omega) ?_; rintro v6 w6 hr5 - hg5 -; have HRG1 := Aside0.mk (row_grown HFB1.out PUT1.out HV1.out hg5 hr5); clear hr5 hg5; have HA9 := Aside0.mk (tail_box HRG1.out.1); have HB9 := Aside0.mk (HB3.out.trans HRG1.out.2); clear HRG1 HR1 HV1 HFB1 PUT1)
        clear q1 h2 h3 HA3 HB3
        go_roundw
        case rel => exact ⟨k + 1, _, _, true, rfl, rfl, rfl, by omega, HY2, HN2, HA9, HB9⟩
        case measure => simp [intOf]; omega
    · have d1 : decide ((k : Int) < (L.length : Int)) = false := decide_eq_false (by omega)
      have HLW : Aside0 (ys.length ≤ 1000001) := ⟨by have h1 := congrArg List.length HY.out; rw [List.length_append, with_length] at h1; omega⟩
      have HNN : Aside0 (∀ m : Nat, m < L.length → (rd_T31 L (m : Int)).f0 ≠ (⟨x0, x1⟩ : S31).f0) := ⟨fun m h => HN.out m (by omega)⟩
      have hdk : L.drop k = [] := List.drop_eq_nil_of_le (by omega)
      have HDK := Aside0.mk hdk
      clear hdk hC
      cases db
      · skip
        have HY2 : Aside0 (ys ++ [⟨x0, x1⟩] = withL L ⟨x0, x1⟩) := ⟨by
          have h := HY.out
          unfold restP at h
          rw [if_neg (by decide), HDK.out] at h
          exact h⟩
        clear HY HDK
        obtain ⟨F1, hr, hFb, put⟩ := (head_box HA.out).head
        have HR1 := Aside0.mk (Kd.R_mono (ok' := fun k => F1 k ∨ wr.heap.size ≤ k) (show Kd.R k31 31 wr 0 F1 u (ys) from hr) (fun k hk => .inl hk))
        have HV1 := Aside0.mk (show ∀ k, (u : Value).ownBlock = some k → F1 k from hr.1)
        have HFB1 := Aside0.mk hFb
        have PUT1 := Aside0.mk put
        clear hr hFb put
        go_wp2_with (refine Kd.R_append k31 (w0 := wr) (W := wr) 0 rfl _ _ 22 31 (.agg #[.int .u32 0, .int .i64 0]) 16 rfl Try.underlying22 info31 rfl (by decide) (by decide) (u) (ys) ⟨x0, x1⟩ [.int .u32 x0, .int .i64 x1] (fun k => F1 k ∨ wr.heap.size ≤ k) (fun _ => False) rfl rfl (k31_mkM _ _ _ _) (fun _ f => f.elim) (fun k hk => .inr hk) HR1.out (Below.refl _ _) (Nat.zero_le _) (by have := HLW.out; simp; omega) ?_; rintro v5 w5 hr5 - hg5 -; have HRG1 := Aside0.mk (row_grown HFB1.out PUT1.out HV1.out hg5 hr5); clear hr5 hg5; have HA7 := Aside0.mk (tail_box HRG1.out.1); have HB7 := Aside0.mk (HB.out.trans HRG1.out.2); clear HRG1 HR1 HV1 HFB1 PUT1; clear q0 q1 f1 b0 b2 HA HB; obtain ⟨q0, q1, f1, -⟩ := ref_cells HA7.out; obtain ⟨Au, cu, rfl, -, -⟩ := HA7.out.reads (d := k31) (e := 31) (v := v5) (xs := ys ++ [⟨x0, x1⟩]) (by simp))
        obtain ⟨hA, hB⟩ := ref_turn HA7.out
        have HA8 : Aside0 (Has B _ (_ ++ Ts)) := ⟨(head_box hA).tail⟩
        have HB8 := Aside0.mk (HB7.out.trans hB)
        have hlen : (ys ++ [(⟨x0, x1⟩ : S31)]).length = ys.length + 1 := by simp
        rw [hlen] at HA8 HB8
        rw [HY2.out] at HA8
        clear hA hB HA7 HB7
        go_ret
        refine ⟨.slice Au (ys.length + 1) cu, by rw [(push_none HNN.out).1]; rfl, ?_, HB8.out⟩
        rw [(push_none HNN.out).2]
        exact HA8.out
      · skip
        have HY2 : Aside0 (ys = withL L ⟨x0, x1⟩) := ⟨by
          have h := HY.out
          unfold restP at h
          rw [if_pos rfl, HDK.out, List.append_nil] at h
          exact h⟩
        clear HY HDK
        obtain ⟨Au, cu, rfl, -, -⟩ := HA.out.reads (d := k31) (e := 31) (v := u) (xs := ys) (by simp)
        obtain ⟨hA, hB⟩ := ref_turn HA.out
        have HA8 : Aside0 (Has B _ (_ ++ Ts)) := ⟨(head_box hA).tail⟩
        have HB8 := Aside0.mk (HB.out.trans hB)
        clear hA hB HA HB q0 b0 b2
        go_wp2_with fail
        go_ret
        refine ⟨.slice Au ys.length cu, by rw [(push_none HNN.out).1]; rfl, ?_, HB8.out⟩
        rw [(push_none HNN.out).2, ← HY2.out]
        exact HA8.out
end Go.Proofs.Ytpnoghnhlddjeaa.Wk
