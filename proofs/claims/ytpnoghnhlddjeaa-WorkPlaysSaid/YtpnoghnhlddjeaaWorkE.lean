/- All workers' tasks: walked. -/
import Derived.Test.YtpnoghnhlddjeaaWorkD
import Derived.Test.YtpnoghnhlddjeaaHeapAll
namespace Go.Proofs.Ytpnoghnhlddjeaa.Wk
open Go.RowKit Go.Shelf Go.Sort Go.Proofs.YtpnoghnhlddjeaaW.PrintWords Go.Proofs.YtpnoghnhlddjeaaW.PrintLast Go.Proofs.YtpnoghnhlddjeaaW.PrintMore Go.Proofs.Ytpnoghnhlddjeaa.Q Go.Proofs.Ytpnoghnhlddjeaa.Own Go.Proofs.Ytpnoghnhlddjeaa.Hp
set_option linter.unusedVariables false
set_option linter.unusedSimpArgs false
attribute [local go_sem ↓] Go.wp_at_zero Go.wp_at_succ

set_option maxHeartbeats 4000000 in
set_option maxRecDepth 100000 in
theorem orderW_grows (a b : S31) (w : World) : Calls Try.prog 32 #[aggT a, aggT b] w fun e w' => e = .returned (.int .i64 (ordT a b)) ∧ Grows w w' := by
  have hu29 := Try.underlying31
  have HG : Aside0 (Grows w ((w.alloc (.cells #[.int .u32 a.f0, .int .i64 a.f1] 31)).alloc (.cells #[.int .u32 b.f0, .int .i64 b.f1] 31))) := ⟨((Grows.refl w).alloc _).alloc _⟩
  have q00 : ((w.alloc (.cells #[.int .u32 a.f0, .int .i64 a.f1] 31)).alloc (.cells #[.int .u32 b.f0, .int .i64 b.f1] 31)).cell? ⟨w.heap.size, 0, none⟩ = some (.int .u32 a.f0) := cell_al _ (by simp)
  have q01 : ((w.alloc (.cells #[.int .u32 a.f0, .int .i64 a.f1] 31)).alloc (.cells #[.int .u32 b.f0, .int .i64 b.f1] 31)).cell? ⟨w.heap.size, 1, none⟩ = some (.int .i64 a.f1) := cell_al _ (by simp)
  have q10 : ((w.alloc (.cells #[.int .u32 a.f0, .int .i64 a.f1] 31)).alloc (.cells #[.int .u32 b.f0, .int .i64 b.f1] 31)).cell? ⟨w.heap.size + 1, 0, none⟩ = some (.int .u32 b.f0) := by
    have := World.cell?_alloc_new (w := w.alloc (.cells #[.int .u32 a.f0, .int .i64 a.f1] 31)) #[.int .u32 b.f0, .int .i64 b.f1] 31 0
    rw [World.size_alloc] at this
    exact this
  have q11 : ((w.alloc (.cells #[.int .u32 a.f0, .int .i64 a.f1] 31)).alloc (.cells #[.int .u32 b.f0, .int .i64 b.f1] 31)).cell? ⟨w.heap.size + 1, 1, none⟩ = some (.int .i64 b.f1) := by
    have := World.cell?_alloc_new (w := w.alloc (.cells #[.int .u32 a.f0, .int .i64 a.f1] 31)) #[.int .u32 b.f0, .int .i64 b.f1] 31 1
    rw [World.size_alloc] at this
    exact this
  obtain ⟨c1, hc1⟩ : ∃ c, c = cmpI a.f1 b.f1 := ⟨_, rfl⟩
  obtain ⟨c2, hc2⟩ : ∃ c, c = cmpI a.f0 b.f0 := ⟨_, rfl⟩
  have C1 := Aside0.mk (cmp_int a.f1 b.f1)
  have C2 := Aside0.mk (cmp_u32 a.f0 b.f0)
  have C3 := Aside0.mk (or_f a b)
  rw [← hc1] at C1 C3
  rw [← hc2] at C2 C3
  clear hc1 hc2
  go_enter Try.func32, Try.ntmps32
  go_wp2_with fail
  generalize (w.alloc (.cells #[.int .u32 a.f0, .int .i64 a.f1] 31)).alloc (.cells #[.int .u32 b.f0, .int .i64 b.f1] 31) = W at HG q00 q01 q10 q11 ⊢
  have OC : Aside0 (∀ n, Calls Try.prog 33 #[.slice (some ⟨W.heap.size, 0, none⟩) 2 2] ((W.drewN n).alloc (.cells #[.int .i64 c1, .int .i64 c2] 3)) fun e w' => e = .returned (.int .i64 (ordT a b)) ∧ Drawn0 ((W.drewN n).alloc (.cells #[.int .i64 c1, .int .i64 c2] 3)) w') := ⟨fun n => cmp_Or_int.calls 10 _ _ [c1, c2] (ordT a b) _ (lit_two (W.drewN n) c1 c2) (Nat.le_refl 2) C3.out⟩
  refine start_ (n := 13) (S := fun w' => w'.cell? ⟨w.heap.size, 0, none⟩ = some (.int .u32 a.f0) ∧ w'.cell? ⟨w.heap.size, 1, none⟩ = some (.int .i64 a.f1) ∧ w'.cell? ⟨w.heap.size + 1, 0, none⟩ = some (.int .u32 b.f0) ∧ w'.cell? ⟨w.heap.size + 1, 1, none⟩ = some (.int .i64 b.f1)) (ds := []) #[false, false, false, false, false, false, false, false, false, false, false, false, false] (by kernel_rfl) rfl rfl ⟨q00, q01, q10, q11⟩ (fun hHeld => ?_)
  refine pure_ (i := 0) (N := some 5) (v := ?_) (a' := ?_) #[true, false, false, false, false, false, false, false, false, false, false, false, false] rfl rfl (by kernel_rfl) (fun _ _ _ h => h) (Or.inl ⟨by rfl, ?_⟩) ?_ ?_
  rotate_left
  · intro w'
    go_simp
    with_reducible rfl
  rotate_left
  · simp only [Act.put, List.setIfInBounds_toArray, List.set_cons_zero, List.set_cons_succ, i64_w, i32_w]
    rfl
  refine pure_ (i := 2) (N := some 7) (v := ?_) (a' := ?_) #[true, false, true, false, false, false, false, false, false, false, false, false, false] rfl rfl (by kernel_rfl) (fun _ _ _ h => h) (Or.inl ⟨by rfl, ?_⟩) ?_ ?_
  rotate_left
  · intro w'
    go_simp
    with_reducible rfl
  rotate_left
  · simp only [Act.put, List.setIfInBounds_toArray, List.set_cons_zero, List.set_cons_succ, i64_w, i32_w]
    rfl
  refine pure_ (i := 5) (N := some 10) (v := ?_) (a' := ?_) #[true, false, true, false, false, true, false, false, false, false, false, false, false] rfl rfl (by kernel_rfl) (fun _ _ _ h => h) (Or.inl ⟨by rfl, ?_⟩) ?_ ?_
  rotate_left
  · intro w'
    go_simp
    with_reducible rfl
  rotate_left
  · simp only [Act.put, List.setIfInBounds_toArray, List.set_cons_zero, List.set_cons_succ, i64_w, i32_w]
    rfl
  refine pure_ (i := 7) (N := some 12) (v := ?_) (a' := ?_) #[true, false, true, false, false, true, false, true, false, false, false, false, false] rfl rfl (by kernel_rfl) (fun _ _ _ h => h) (Or.inl ⟨by rfl, ?_⟩) ?_ ?_
  rotate_left
  · intro w'
    go_simp
    with_reducible rfl
  rotate_left
  · simp only [Act.put, List.setIfInBounds_toArray, List.set_cons_zero, List.set_cons_succ, i64_w, i32_w]
    rfl
  refine take_ (i := 1) (N := some 6) (v := ?_) (a' := ?_) #[true, true, true, false, false, true, false, true, false, false, false, false, false] rfl rfl (by kernel_rfl) (fun _ _ _ h => h) (Or.inl ⟨by rfl, ?_⟩) hHeld ?_ ?_
  rotate_left
  · rintro w' ⟨s0, s1, s2, s3⟩
    go_simp
    with_reducible rfl
  rotate_left
  · simp only [Act.put, List.setIfInBounds_toArray, List.set_cons_zero, List.set_cons_succ, i64_w, i32_w]
    rfl
  refine take_ (i := 3) (N := some 8) (v := ?_) (a' := ?_) #[true, true, true, true, false, true, false, true, false, false, false, false, false] rfl rfl (by kernel_rfl) (fun _ _ _ h => h) (Or.inl ⟨by rfl, ?_⟩) hHeld ?_ ?_
  rotate_left
  · rintro w' ⟨s0, s1, s2, s3⟩
    go_simp
    with_reducible rfl
  rotate_left
  · simp only [Act.put, List.setIfInBounds_toArray, List.set_cons_zero, List.set_cons_succ, i64_w, i32_w]
    rfl
  refine take_ (i := 6) (N := some 11) (v := ?_) (a' := ?_) #[true, true, true, true, false, true, true, true, false, false, false, false, false] rfl rfl (by kernel_rfl) (fun _ _ _ h => h) (Or.inl ⟨by rfl, ?_⟩) hHeld ?_ ?_
  rotate_left
  · rintro w' ⟨s0, s1, s2, s3⟩
    go_simp
    with_reducible rfl
  rotate_left
  · simp only [Act.put, List.setIfInBounds_toArray, List.set_cons_zero, List.set_cons_succ, i64_w, i32_w]
    rfl
  refine take_ (i := 8) (N := some 13) (v := ?_) (a' := ?_) #[true, true, true, true, false, true, true, true, true, false, false, false, false] rfl rfl (by kernel_rfl) (fun _ _ _ h => h) (Or.inl ⟨by rfl, ?_⟩) hHeld ?_ ?_
  rotate_left
  · rintro w' ⟨s0, s1, s2, s3⟩
    go_simp
    with_reducible rfl
  rotate_left
  · simp only [Act.put, List.setIfInBounds_toArray, List.set_cons_zero, List.set_cons_succ, i64_w, i32_w]
    rfl
  refine one_ (i := 4) (N := some 9) #[true, true, true, true, true, true, true, true, true, false, false, false, false] rfl rfl (by kernel_rfl) (by decide) (fun K hK => ?_)
  refine goes_ Try.func34 (by kernel_rfl) rfl #[.int .i64 a.f1, .int .i64 b.f1] (by rfl) rfl rfl (by simp only [List.map_toArray, List.map_cons, List.map_nil]; rfl) ?_
  with_reducible refine (cmp_Compare_int.calls _ _ c1 _ C1.out).mono ?_
  rintro e w3 ⟨rfl, ⟨n1, rfl⟩⟩
  refine ⟨_, rfl, ?_⟩
  refine hK.out _ _ ⟨q00, q01, q10, q11⟩ (fun hHeld => ?_)
  clear hK K
  refine norm_ (a' := ?_) ?_ ?_
  rotate_left
  · show Act.put _ (some 9) _ = _
    simp only [Act.put, List.setIfInBounds_toArray, List.set_cons_zero, List.set_cons_succ, i64_w, i32_w]
    rfl
  refine one_ (i := 9) (N := some 14) #[true, true, true, true, true, true, true, true, true, true, false, false, false] rfl rfl (by kernel_rfl) (by decide) (fun K hK => ?_)
  refine goes_ Try.func35 (by kernel_rfl) rfl #[.int .u32 a.f0, .int .u32 b.f0] (by rfl) rfl rfl (by simp only [List.map_toArray, List.map_cons, List.map_nil]; rfl) ?_
  with_reducible refine (cmp_Compare_uint32.calls _ _ c2 _ C2.out).mono ?_
  rintro e w3 ⟨rfl, ⟨n2, rfl⟩⟩
  refine ⟨_, rfl, ?_⟩
  refine hK.out _ _ ⟨q00, q01, q10, q11⟩ (fun hHeld => ?_)
  clear hK K
  refine norm_ (a' := ?_) ?_ ?_
  rotate_left
  · show Act.put _ (some 14) _ = _
    simp only [Act.put, List.setIfInBounds_toArray, List.set_cons_zero, List.set_cons_succ, i64_w, i32_w]
    rfl
  refine one_ (i := 10) (N := some 15) #[true, true, true, true, true, true, true, true, true, true, true, false, false] rfl rfl (by kernel_rfl) (by decide) (fun K hK => ?_)
  refine value_ (w1 := ?_) (v := ?_) (by rfl) rfl ?_ ?_
  rotate_left 2
  · go_simp
    constructor
    · rfl
    · rfl
  refine hK.out _ _ ⟨cell_al (W := W) _ q00, cell_al (W := W) _ q01, cell_al (W := W) _ q10, cell_al (W := W) _ q11⟩ (fun hHeld => ?_)
  clear hK K
  refine norm_ (a' := ?_) ?_ ?_
  rotate_left
  · show Act.put _ (some 15) _ = _
    simp only [Act.put, List.setIfInBounds_toArray, List.set_cons_zero, List.set_cons_succ, i64_w, i32_w]
    rfl
  refine one_ (i := 11) (N := some 16) #[true, true, true, true, true, true, true, true, true, true, true, true, false] rfl rfl (by kernel_rfl) (by decide) (fun K hK => ?_)
  refine goes_ Try.func33 (by kernel_rfl) rfl #[.slice (some ⟨W.heap.size, 0, none⟩) 2 2] (by rfl) rfl rfl (by simp only [List.map_toArray, List.map_cons, List.map_nil]; rfl) ?_
  with_reducible refine (OC.out _).mono ?_
  rintro e w3 ⟨rfl, ⟨n3, rfl⟩⟩
  refine ⟨_, rfl, ?_⟩
  refine hK.out _ _ ⟨cell_al (W := W) _ q00, cell_al (W := W) _ q01, cell_al (W := W) _ q10, cell_al (W := W) _ q11⟩ (fun hHeld => ?_)
  clear hK K
  refine norm_ (a' := ?_) ?_ ?_
  rotate_left
  · show Act.put _ (some 16) _ = _
    simp only [Act.put, List.setIfInBounds_toArray, List.set_cons_zero, List.set_cons_succ, i64_w, i32_w]
    rfl
  refine pure_ (i := 12) (N := some 4) (v := ?_) (a' := ?_) #[true, true, true, true, true, true, true, true, true, true, true, true, true] rfl rfl (by kernel_rfl) (fun _ _ _ h => h) (Or.inl ⟨by rfl, ?_⟩) ?_ ?_
  rotate_left
  · intro w'
    go_simp
    with_reducible rfl
  rotate_left
  · simp only [Act.put, List.setIfInBounds_toArray, List.set_cons_zero, List.set_cons_succ, i64_w, i32_w]
    rfl
  refine done_ (by kernel_rfl) ?_

  go_wp2
  go_ret
  exact ⟨rfl, (((HG.out).drewN _).alloc _).drewN _⟩
theorem sortW_calls {w : World} {base : Nat} {v : Value} {l : List S31} (h : w.ownsRow base 31 2 v l.length (flatT l)) (hl : l.length ≤ 1000000) :
    Calls Try.prog 31 #[v, .func (.func 32) #[] #[]] w fun e w' => e = .returned (.tuple #[]) ∧ w'.ownsRow base 31 2 v l.length (flatT (sortL l)) ∧ Below base w w' := by
  have h0 := h
  obtain ⟨h1, h2⟩ := h
  rcases h2 with ⟨hv, hn⟩ | ⟨g, cap, cur, hv, hb, hh, hnc, hcm, hcs, ht⟩
  · subst hv
    obtain rfl : l = [] := List.length_eq_zero_iff.1 hn
    refine (AnyF.slices_SortFunc_none Lay.sort33 none 0 (.func (.func 32) #[] #[]) w).mono ?_
    rintro e w' ⟨rfl, rfl⟩
    exact ⟨rfl, by simpa [sortL] using h0, Below.refl _ _⟩
  · subst hv
    have hg : g < w.heap.size := blk_lt hh
    have hS := AnyQ.slices_SortFunc_total Lay.sort33 2 Try.isAgg31 Try.sizeOf31 cellsT (fun _ => rfl) (fun x v hv => by simp [cellsT] at hv; rcases hv with rfl | rfl <;> rfl) ordT swo_ord 32 #[] g 0 cap l.toArray w (enters_of Try.func32 (by kernel_rfl) rfl) (fun m os dk _ x y => orderW_grows x y _) (holds_own h0) hg (by simp; omega) tot_ord
    refine hS.mono ?_
    rintro e w' ⟨rfl, n, os, rfl⟩
    have hd : (l.mergeSort fun x y => !(ltOf ordT) y x).length = l.length := List.length_mergeSort l
    obtain ⟨r1, r2⟩ := sort_row (m := n) (os := os) h0 rfl hd
    refine ⟨rfl, r1, r2.os, r2.tape, r2.output, r2.size, fun k hk => ?_⟩
    exact r2.block k (by omega) (fun e => by injection e with e; omega)
end Go.Proofs.Ytpnoghnhlddjeaa.Wk
namespace Go.Proofs.Ytpnoghnhlddjeaa.Wk
open Go.RowKit Go.Proofs.YtpnoghnhlddjeaaW.PrintWords Go.Proofs.YtpnoghnhlddjeaaW.PrintLast Go.Proofs.YtpnoghnhlddjeaaW.PrintMore Go.Proofs.Ytpnoghnhlddjeaa.Q Go.Proofs.Ytpnoghnhlddjeaa.Own Go.Proofs.Ytpnoghnhlddjeaa.Hp
set_option linter.unusedVariables false
set_option linter.unusedSimpArgs false
attribute [local go_sem ↓] Go.wp_at_zero Go.wp_at_succ

theorem reps_inner {w : World} {base : Nat} {ok : Nat → Prop} : ∀ {l : List S31} {inner : List Value}, Reps (Kd.M k31 w base ok) 2 l inner → inner = flatT l
  | [], inner, h => List.eq_nil_of_length_eq_zero (by rw [h.1]; rfl)
  | x :: l, inner, h => by
    have h0 := k31_openM (h.2 0 x rfl)
    rw [Nat.zero_mul, List.drop_zero] at h0
    have h1 : Reps (Kd.M k31 w base ok) 2 l (inner.drop 2) := by
      refine ⟨by rw [List.length_drop, h.1, List.length_cons]; omega, fun j p hp => ?_⟩
      have := h.2 (j + 1) p (by simpa using hp)
      rw [List.drop_drop, show 2 + j * 2 = (j + 1) * 2 by omega]
      exact this
    rw [← List.take_append_drop 2 inner, h0, reps_inner h1]
    rfl
theorem row_flat {w : World} {base : Nat} {ok : Nat → Prop} {v : Value} {l : List S31} (h : Kd.R k31 31 w base ok v l) : w.ownsRow base 31 2 v l.length (flatT l) := by
  obtain ⟨hok, inner, ho, hr⟩ := h
  have e := reps_inner hr
  rw [← e]
  exact ho
def OutRel (B : Nat) (w : World) (p : Nat) (v : Value) (ps : List Nat) (hs : List (List S31)) (Ts : List Th) (n : Nat) (o : Value) (wr : World) : Prop :=
  Kd.R k31 31 wr w.heap.size (fun k => w.heap.size ≤ k) o (hs.take n).flatten ∧ Below w.heap.size w wr
set_option maxHeartbeats 4000000 in
set_option maxRecDepth 100000 in
theorem wall_calls {B : Nat} {w : World} {p : Nat} {v : Value} {ps : List Nat} {hs : List (List S31)} {Ts : List Th} (h : Has B w (workL p v ps hs ++ Ts)) (hl : ps.length = hs.length) (hfew : hs.flatten.length ≤ 1000000) :
    Calls Try.prog 9 #[ptr p] w (RowPost w (sortL hs.flatten)) := by
  have H := Aside0.mk h
  have HL := Aside0.mk hl
  have HN := Aside0.mk (wnone_calls h)
  obtain ⟨q0, -, A, c, rfl, hc, hC⟩ := work_cells h
  have HC := Aside0.mk hC
  have hmax : ps.length ≤ 9223372036854775807 := Kd.C_max hC
  clear h hl hc hC
  go_enter Try.func9, Try.ntmps9
  go_wp2_with fail
  refine HN.out.mono ?_
  rintro e w1 ⟨rfl, rfl⟩
  have HO : Aside0 (OutRel B w p (.slice A ps.length c) ps hs Ts 0 (.slice none 0 0) w) := ⟨by rw [List.take_zero]; exact Kd.R_nil _ _ _ _ _, Below.refl _ _⟩
  go_wp2_with fail
  go_loopw [13, 3] (fun i o wr => ∃ (n : Nat) (u : Value), i = .int .i64 n ∧ u = o ∧ n ≤ ps.length ∧ Aside0 (OutRel B w p (.slice A ps.length c) ps hs Ts n u wr)) (fun i _ _ => ps.length - (intOf i).toNat)
  case atStart => exact ⟨0, _, rfl, rfl, by omega, HO⟩
  case round =>
    clear HO
    obtain ⟨n, u, rfl, rfl, hn, HO⟩ := hrel
    by_cases hnt : n < ps.length
    · have d1 : decide ((n : Int) < (ps.length : Int)) = true := decide_eq_true (by omega)
      have d2 : (n : Int) < (ps.length : Int) := by omega
      obtain ⟨hR, hB⟩ := HO.out
      obtain ⟨ad, rfl, ka⟩ := at_P HC.out n hnt
      have ka2 := pw_cell_below hB ka
      obtain ⟨R, r1, -⟩ := work_pick Ts HL.out n hnt
      have HAL := Aside0.mk (all_calls (r1 _ _ (H.out.below hB)))
      generalize ps[n] = q at ka ka2 HAL
      have htk : (hs.take (n + 1)).flatten = (hs.take n).flatten ++ hs.getD n [] := by
        have hnh : n < hs.length := by have := HL.out; omega
        rw [List.take_succ_eq_append_getElem hnh, List.flatten_append, List.getD_eq_getElem?_getD, List.getElem?_eq_getElem hnh]
        simp
      have hle : ((hs.take (n + 1)).flatten).length ≤ 1000000 := by
        have h1 : hs.flatten = (hs.take (n + 1)).flatten ++ (hs.drop (n + 1)).flatten := by rw [← List.flatten_append, List.take_append_drop]
        rw [h1, List.length_append] at hfew
        omega
      rw [htk, List.length_append] at hle
      have HTK := Aside0.mk htk
      have HR := Aside0.mk hR
      have HB := Aside0.mk hB
      clear hR hB HO r1 ka htk
      go_wp2_with fail
      refine HAL.out.mono ?_
      rintro e w3 ⟨va, rfl, hr, hb⟩
      obtain ⟨A3, c3, rfl, hc3, hC3⟩ := Kd.R_reads hr
      have HR3 := Aside0.mk (Kd.R_below HR.out hb)
      have HB3 := Aside0.mk (HB.out.trans (hb.mono HB.out.size))
      have HC3 := Aside0.mk hC3
      clear hr hb hC3 hc3 HAL HR HB ka2
      have hsz := HB3.out.size
      go_wp2_with (refine Kd.R_append_rows k31 (Rr := k31.K w3) (w0 := w) (W := w3) w.heap.size rfl _ _ 22 31 (.agg #[.int .u32 0, .int .i64 0]) 16 rfl Try.underlying22 info31 rfl (by decide) (by decide) u (hs.take n).flatten (hs.getD n []) A3 (hs.getD n []).length c3 (fun k => w.heap.size ≤ k) (fun _ => False) rfl rfl HR3.out HC3.out (fun x cs hx => by rw [k31_open hx]; exact k31_mkM _ _ _ x) (fun _ f => f.elim) (fun k hk => Nat.le_trans hsz hk) HB3.out hsz (by omega) ?_; rintro v4 w4 hR4 hB4 - -; have HR4 := Aside0.mk hR4; have HB4 := Aside0.mk hB4; clear hR4 hB4)
      go_roundw
      case rel => exact ⟨n + 1, v4, rfl, rfl, by omega, ⟨by rw [HTK.out]; exact HR4.out, HB4.out⟩⟩
      case measure => simp [intOf]; omega
    · have d1 : decide ((n : Int) < (ps.length : Int)) = false := decide_eq_false (by omega)
      obtain ⟨hR, hB⟩ := HO.out
      rw [List.take_of_length_le (by have := HL.out; omega)] at hR
      have HS := Aside0.mk (sortW_calls (row_flat hR) hfew)
      have HB := Aside0.mk hB
      clear hR hB HO
      go_wp2_with fail
      refine HS.out.mono ?_
      rintro e w3 ⟨rfl, hv, hb⟩
      have HV := Aside0.mk hv
      have HB3 := Aside0.mk (HB.out.trans hb)
      clear hv hb HS HB
      go_wp2_with fail
      go_ret
      refine ⟨_, rfl, R_flat ?_ (fun _ _ => trivial), HB3.out⟩
      rw [show (sortL hs.flatten).length = hs.flatten.length from List.length_mergeSort hs.flatten]
      exact HV.out
theorem wlen_calls {B : Nat} {w : World} {p : Nat} {v : Value} {ps : List Nat} {hs : List (List S31)} {Ts : List Th} (h : Has B w (workL p v ps hs ++ Ts)) (hl : ps.length = hs.length) (hfew : hs.flatten.length ≤ 1000000) :
    Calls Try.prog 13 #[ptr p] w fun e w' => e = .returned (.int .i64 (hs.flatten.length : Int)) ∧ Below w.heap.size w w' := by
  have HA := Aside0.mk (wall_calls h hl hfew)
  have hlen : (sortL hs.flatten).length = hs.flatten.length := List.length_mergeSort hs.flatten
  rw [← hlen]
  generalize sortL hs.flatten = s at HA
  clear h hl hfew hlen
  go_enter Try.func13, Try.ntmps13
  go_wp2_with fail
  refine HA.out.mono ?_
  rintro e w1 ⟨v1, rfl, hr, hb⟩
  obtain ⟨A, c, rfl, hc, -⟩ := Kd.R_reads hr
  clear hr HA
  go_wp2_with fail
  go_ret
  exact ⟨rfl, hb⟩
end Go.Proofs.Ytpnoghnhlddjeaa.Wk
