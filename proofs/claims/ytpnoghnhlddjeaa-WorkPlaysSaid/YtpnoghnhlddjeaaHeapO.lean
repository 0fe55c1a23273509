/- What cmp says of two tasks, and just which blocks it lays. No law is proved here. -/
import Derived.Test.YtpnoghnhlddjeaaHeapH
import Derived.Sort.Grow
namespace Go.Proofs.Ytpnoghnhlddjeaa.Hp
open Go.RowKit Go.Proofs.YtpnoghnhlddjeaaW.PrintWords Go.Proofs.YtpnoghnhlddjeaaW.PrintLast Go.Proofs.YtpnoghnhlddjeaaW.PrintMore Go.Proofs.Ytpnoghnhlddjeaa.Q Go.Proofs.Ytpnoghnhlddjeaa.Own
set_option linter.unusedVariables false
set_option linter.unusedSimpArgs false
attribute [local go_sem ↓] Go.wp_at_zero Go.wp_at_succ

/-- Draws, and blocks behind all. -/
def Grows (w w' : World) : Prop := ∃ q os, w' = Sort.grow (w.drewN q) os
theorem Grows.refl (w : World) : Grows w w := ⟨0, #[], by simp [Sort.grow, World.drewN]⟩
theorem Grows.drewN {w w' : World} (h : Grows w w') (n : Nat) : Grows w (w'.drewN n) := by
  obtain ⟨q, os, rfl⟩ := h
  exact ⟨q + n, os, by simp [Sort.grow, World.drewN, Nat.add_assoc]⟩
theorem Grows.drew {w w' : World} (h : Grows w w') : Grows w w'.drew := h.drewN 1
theorem Grows.alloc {w w' : World} (h : Grows w w') (o : Obj) : Grows w (w'.alloc o) := by
  obtain ⟨q, os, rfl⟩ := h
  exact ⟨q, os.push o, by simp [Sort.grow, World.drewN, World.alloc]⟩
theorem Grows.drawn {w w' w2 : World} (h : Grows w w') (k : Drawn0 w' w2) : Grows w w2 := by
  obtain ⟨n, rfl⟩ := k.out
  exact h.drewN n
def cmpI (x y : Int) : Int := if x < y then -1 else if x > y then 1 else 0
theorem cmp_int (x y : Int) : cmp_Compare_int.f x y = some (cmpI x y) := by
  unfold cmp_Compare_int.f cmp_isNaN_int.f cmpI
  simp only [bne_self_eq_false, Option.bind_some]
  by_cases h1 : x < y
  · simp [h1]
  · by_cases h2 : x > y <;> simp [h1, h2]
theorem cmp_u32 (x y : Int) : cmp_Compare_uint32.f x y = some (cmpI x y) := by
  unfold cmp_Compare_uint32.f cmp_isNaN_uint32.f cmpI
  simp only [bne_self_eq_false, Option.bind_some]
  by_cases h1 : x < y
  · simp [h1]
  · by_cases h2 : x > y <;> simp [h1, h2]
theorem or_f (a b : S31) : cmp_Or_int.f 10 [cmpI a.f1 b.f1, cmpI a.f0 b.f0] = some (ordT a b) := by
  unfold ordT cmpI
  by_cases h1 : a.f1 < b.f1
  · by_cases h2 : a.f0 < b.f0 <;> by_cases h3 : a.f0 > b.f0 <;> simp [h1, h2, h3, cmp_Or_int.f, cmp_Or_int.l0, rd]
  · by_cases h4 : a.f1 > b.f1
    · by_cases h2 : a.f0 < b.f0 <;> by_cases h3 : a.f0 > b.f0 <;> simp [h1, h2, h3, h4, cmp_Or_int.f, cmp_Or_int.l0, rd]
    · by_cases h2 : a.f0 < b.f0
      · simp [h1, h2, h4, cmp_Or_int.f, cmp_Or_int.l0, rd, wrap64]
      · by_cases h3 : a.f0 > b.f0 <;> simp [h1, h2, h3, h4, cmp_Or_int.f, cmp_Or_int.l0, rd, wrap64]
theorem lit_two (W : World) (t u : Int) : Kd.C (Kd.int .i64) (W.alloc (.cells #[.int .i64 t, .int .i64 u] 3)) (some ⟨W.heap.size, 0, none⟩) 2 [t, u] := by
  have h : Kd.R (Kd.int .i64) 3 (W.alloc (.cells #[.int .i64 t, .int .i64 u] 3)) 0 (fun _ => True) (.slice (some ⟨W.heap.size, 0, none⟩) 2 2) [t, u] :=
    ⟨fun _ _ => trivial, OwnRow.lit (ps := [t, u]) W 0 (inner := [.int .i64 t, .int .i64 u]) (Reps.one (show Kd.M (Kd.int .i64) _ _ _ t [.int .i64 t] from rfl) (Reps.one (show Kd.M (Kd.int .i64) _ _ _ u [.int .i64 u] from rfl) (Reps.none _ _))) (Nat.zero_le _) (show 2 ≤ 9223372036854775807 by decide)⟩
  exact (Kd.R_reads' h).2.2
theorem cell_al2 {W : World} {a : Addr} {v : Value} (o : Obj) (h : W.cell? a = some v) : (W.alloc o).cell? a = some v := cell_al o h
set_option maxHeartbeats 4000000 in
set_option maxRecDepth 100000 in
theorem order_grows (a b : S31) (w : World) : Calls Try.prog 48 #[aggT a, aggT b] w fun e w' => e = .returned (.int .i64 (ordT a b)) ∧ Grows w w' := by
  have hu29 := Try.underlying31
  have HG : Aside0 (Grows w ((w.alloc (.cells #[.int .u32 a.f0, .int .i64 a.f1] 31)).alloc (.cells #[.int .u32 b.f0, .int .i64 b.f1] 31))) := ⟨((Grows.refl w).alloc _).alloc _⟩
  have q00 : ((w.alloc (.cells #[.int .u32 a.f0, .int .i64 a.f1] 31)).alloc (.cells #[.int .u32 b.f0, .int .i64 b.f1] 31)).cell? ⟨w.heap.size, 0, none⟩ = some (.int .u32 a.f0) := cell_al _ (by simp)
  have q01 : ((w.alloc (.cells #[.int .u32 a.f0, .int .i64 a.f1] 31)).alloc (.cells #[.int .u32 b.f0, .int .i64 b.f1] 31)).cell? ⟨w.heap.size, 1, none⟩ = some (.int .i64 a.f1) := cell_al _ (by simp)
  have q10 : ((w.alloc (.cells #[.int .u32 a.f0, .int .i64 a.f1] 31)).alloc (.cells #[.int .u32 b.f0, .int .i64 b.f1] 31)).cell? ⟨w.heap.size + 1, 0, none⟩ = some (.int .u32 b.f0) := by
    have := World.cell?_alloc_new (w := w.alloc (.cells #[.int .u32 a.f0, .int .i64 a.f1] 31)) #[.int .u32 b.f0, .int .i64 b.f1] 31 0
    rw [World.size_alloc] at this
    exact this
  have q11 : ((w.alloc (.cells #[.int .u32 a.f0, .int .i64 a.f1] 31)).alloc (.cells #[.int .u32 b.f0, .int .i64 b.f1] 31)).cell? ⟨w.heap.size + 1, 1, none⟩ = some (.int .i64 b.f1) := by
    have := World.cell?_alloc_new (w := w.alloc (.cells #[.int .u32 a.f0, .int .i64 a.f1] 31)) #[.int .u32 b.f0, .int .i64 b.f1] 31 1
    rw [World.size_alloc] at this
    exact this
  obtain ⟨c1, hc1⟩ : ∃ c, c = cmpI a.f1 b.f1 := ⟨_, rfl⟩
  obtain ⟨c2, hc2⟩ : ∃ c, c = cmpI a.f0 b.f0 := ⟨_, rfl⟩
  have C1 := Aside0.mk (cmp_int a.f1 b.f1)
  have C2 := Aside0.mk (cmp_u32 a.f0 b.f0)
  have C3 := Aside0.mk (or_f a b)
  rw [← hc1] at C1 C3
  rw [← hc2] at C2 C3
  clear hc1 hc2
  go_enter Try.func48, Try.ntmps48
  go_wp2_with fail
  generalize (w.alloc (.cells #[.int .u32 a.f0, .int .i64 a.f1] 31)).alloc (.cells #[.int .u32 b.f0, .int .i64 b.f1] 31) = W at HG q00 q01 q10 q11 ⊢
  have OC : Aside0 (∀ n, Calls Try.prog 33 #[.slice (some ⟨W.heap.size, 0, none⟩) 2 2] ((W.drewN n).alloc (.cells #[.int .i64 c1, .int .i64 c2] 3)) fun e w' => e = .returned (.int .i64 (ordT a b)) ∧ Drawn0 ((W.drewN n).alloc (.cells #[.int .i64 c1, .int .i64 c2] 3)) w') := ⟨fun n => cmp_Or_int.calls 10 _ _ [c1, c2] (ordT a b) _ (lit_two (W.drewN n) c1 c2) (Nat.le_refl 2) C3.out⟩
  refine start_ (n := 13) (S := fun w' => w'.cell? ⟨w.heap.size, 0, none⟩ = some (.int .u32 a.f0) ∧ w'.cell? ⟨w.heap.size, 1, none⟩ = some (.int .i64 a.f1) ∧ w'.cell? ⟨w.heap.size + 1, 0, none⟩ = some (.int .u32 b.f0) ∧ w'.cell? ⟨w.heap.size + 1, 1, none⟩ = some (.int .i64 b.f1)) (ds := []) #[false, false, false, false, false, false, false, false, false, false, false, false, false] (by kernel_rfl) rfl rfl ⟨q00, q01, q10, q11⟩ (fun hHeld => ?_)
  refine pure_ (i := 0) (N := some 5) (v := ?_) (a' := ?_) #[true, false, false, false, false, false, false, false, false, false, false, false, false] rfl rfl (by kernel_rfl) (fun _ _ _ h => h) (Or.inl ⟨by rfl, ?_⟩) ?_ ?_
  rotate_left
  · intro w'
    go_simp
    with_reducible rfl
  rotate_left
  · simp only [Act.put, List.setIfInBounds_toArray, List.set_cons_zero, List.set_cons_succ, i64_w, i32_w]
    rfl
  refine pure_ (i := 2) (N := some 7) (v := ?_) (a' := ?_) #[true, false, true, false, false, false, false, false, false, false, false, false, false] rfl rfl (by kernel_rfl) (fun _ _ _ h => h) (Or.inl ⟨by rfl, ?_⟩) ?_ ?_
  rotate_left
  · intro w'
    go_simp
    with_reducible rfl
  rotate_left
  · simp only [Act.put, List.setIfInBounds_toArray, List.set_cons_zero, List.set_cons_succ, i64_w, i32_w]
    rfl
  refine pure_ (i := 5) (N := some 10) (v := ?_) (a' := ?_) #[true, false, true, false, false, true, false, false, false, false, false, false, false] rfl rfl (by kernel_rfl) (fun _ _ _ h => h) (Or.inl ⟨by rfl, ?_⟩) ?_ ?_
  rotate_left
  · intro w'
    go_simp
    with_reducible rfl
  rotate_left
  · simp only [Act.put, List.setIfInBounds_toArray, List.set_cons_zero, List.set_cons_succ, i64_w, i32_w]
    rfl
  refine pure_ (i := 7) (N := some 12) (v := ?_) (a' := ?_) #[true, false, true, false, false, true, false, true, false, false, false, false, false] rfl rfl (by kernel_rfl) (fun _ _ _ h => h) (Or.inl ⟨by rfl, ?_⟩) ?_ ?_
  rotate_left
  · intro w'
    go_simp
    with_reducible rfl
  rotate_left
  · simp only [Act.put, List.setIfInBounds_toArray, List.set_cons_zero, List.set_cons_succ, i64_w, i32_w]
    rfl
  refine take_ (i := 1) (N := some 6) (v := ?_) (a' := ?_) #[true, true, true, false, false, true, false, true, false, false, false, false, false] rfl rfl (by kernel_rfl) (fun _ _ _ h => h) (Or.inl ⟨by rfl, ?_⟩) hHeld ?_ ?_
  rotate_left
  · rintro w' ⟨s0, s1, s2, s3⟩
    go_simp
    with_reducible rfl
  rotate_left
  · simp only [Act.put, List.setIfInBounds_toArray, List.set_cons_zero, List.set_cons_succ, i64_w, i32_w]
    rfl
  refine take_ (i := 3) (N := some 8) (v := ?_) (a' := ?_) #[true, true, true, true, false, true, false, true, false, false, false, false, false] rfl rfl (by kernel_rfl) (fun _ _ _ h => h) (Or.inl ⟨by rfl, ?_⟩) hHeld ?_ ?_
  rotate_left
  · rintro w' ⟨s0, s1, s2, s3⟩
    go_simp
    with_reducible rfl
  rotate_left
  · simp only [Act.put, List.setIfInBounds_toArray, List.set_cons_zero, List.set_cons_succ, i64_w, i32_w]
    rfl
  refine take_ (i := 6) (N := some 11) (v := ?_) (a' := ?_) #[true, true, true, true, false, true, true, true, false, false, false, false, false] rfl rfl (by kernel_rfl) (fun _ _ _ h => h) (Or.inl ⟨by rfl, ?_⟩) hHeld ?_ ?_
  rotate_left
  · rintro w' ⟨s0, s1, s2, s3⟩
    go_simp
    with_reducible rfl
  rotate_left
  · simp only [Act.put, List.setIfInBounds_toArray, List.set_cons_zero, List.set_cons_succ, i64_w, i32_w]
    rfl
  refine take_ (i := 8) (N := some 13) (v := ?_) (a' := ?_) #[true, true, true, true, false, true, true, true, true, false, false, false, false] rfl rfl (by kernel_rfl) (fun _ _ _ h => h) (Or.inl ⟨by rfl, ?_⟩) hHeld ?_ ?_
  rotate_left
  · rintro w' ⟨s0, s1, s2, s3⟩
    go_simp
    with_reducible rfl
  rotate_left
  · simp only [Act.put, List.setIfInBounds_toArray, List.set_cons_zero, List.set_cons_succ, i64_w, i32_w]
    rfl
  refine one_ (i := 4) (N := some 9) #[true, true, true, true, true, true, true, true, true, false, false, false, false] rfl rfl (by kernel_rfl) (by decide) (fun K hK => ?_)
  refine goes_ Try.func34 (by kernel_rfl) rfl #[.int .i64 a.f1, .int .i64 b.f1] (by rfl) rfl rfl (by simp only [List.map_toArray, List.map_cons, List.map_nil]; rfl) ?_
  with_reducible refine (cmp_Compare_int.calls _ _ c1 _ C1.out).mono ?_
  rintro e w3 ⟨rfl, ⟨n1, rfl⟩⟩
  refine ⟨_, rfl, ?_⟩
  refine hK.out _ _ ⟨q00, q01, q10, q11⟩ (fun hHeld => ?_)
  clear hK K
  refine norm_ (a' := ?_) ?_ ?_
  rotate_left
  · show Act.put _ (some 9) _ = _
    simp only [Act.put, List.setIfInBounds_toArray, List.set_cons_zero, List.set_cons_succ, i64_w, i32_w]
    rfl
  refine one_ (i := 9) (N := some 14) #[true, true, true, true, true, true, true, true, true, true, false, false, false] rfl rfl (by kernel_rfl) (by decide) (fun K hK => ?_)
  refine goes_ Try.func35 (by kernel_rfl) rfl #[.int .u32 a.f0, .int .u32 b.f0] (by rfl) rfl rfl (by simp only [List.map_toArray, List.map_cons, List.map_nil]; rfl) ?_
  with_reducible refine (cmp_Compare_uint32.calls _ _ c2 _ C2.out).mono ?_
  rintro e w3 ⟨rfl, ⟨n2, rfl⟩⟩
  refine ⟨_, rfl, ?_⟩
  refine hK.out _ _ ⟨q00, q01, q10, q11⟩ (fun hHeld => ?_)
  clear hK K
  refine norm_ (a' := ?_) ?_ ?_
  rotate_left
  · show Act.put _ (some 14) _ = _
    simp only [Act.put, List.setIfInBounds_toArray, List.set_cons_zero, List.set_cons_succ, i64_w, i32_w]
    rfl
  refine one_ (i := 10) (N := some 15) #[true, true, true, true, true, true, true, true, true, true, true, false, false] rfl rfl (by kernel_rfl) (by decide) (fun K hK => ?_)
  refine value_ (w1 := ?_) (v := ?_) (by rfl) rfl ?_ ?_
  rotate_left 2
  · go_simp
    constructor
    · rfl
    · rfl
  refine hK.out _ _ ⟨cell_al (W := W) _ q00, cell_al (W := W) _ q01, cell_al (W := W) _ q10, cell_al (W := W) _ q11⟩ (fun hHeld => ?_)
  clear hK K
  refine norm_ (a' := ?_) ?_ ?_
  rotate_left
  · show Act.put _ (some 15) _ = _
    simp only [Act.put, List.setIfInBounds_toArray, List.set_cons_zero, List.set_cons_succ, i64_w, i32_w]
    rfl
  refine one_ (i := 11) (N := some 16) #[true, true, true, true, true, true, true, true, true, true, true, true, false] rfl rfl (by kernel_rfl) (by decide) (fun K hK => ?_)
  refine goes_ Try.func33 (by kernel_rfl) rfl #[.slice (some ⟨W.heap.size, 0, none⟩) 2 2] (by rfl) rfl rfl (by simp only [List.map_toArray, List.map_cons, List.map_nil]; rfl) ?_
  with_reducible refine (OC.out _).mono ?_
  rintro e w3 ⟨rfl, ⟨n3, rfl⟩⟩
  refine ⟨_, rfl, ?_⟩
  refine hK.out _ _ ⟨cell_al (W := W) _ q00, cell_al (W := W) _ q01, cell_al (W := W) _ q10, cell_al (W := W) _ q11⟩ (fun hHeld => ?_)
  clear hK K
  refine norm_ (a' := ?_) ?_ ?_
  rotate_left
  · show Act.put _ (some 16) _ = _
    simp only [Act.put, List.setIfInBounds_toArray, List.set_cons_zero, List.set_cons_succ, i64_w, i32_w]
    rfl
  refine pure_ (i := 12) (N := some 4) (v := ?_) (a' := ?_) #[true, true, true, true, true, true, true, true, true, true, true, true, true] rfl rfl (by kernel_rfl) (fun _ _ _ h => h) (Or.inl ⟨by rfl, ?_⟩) ?_ ?_
  rotate_left
  · intro w'
    go_simp
    with_reducible rfl
  rotate_left
  · simp only [Act.put, List.setIfInBounds_toArray, List.set_cons_zero, List.set_cons_succ, i64_w, i32_w]
    rfl
  refine done_ (by kernel_rfl) ?_

  go_wp2
  go_ret
  exact ⟨rfl, (((HG.out).drewN _).alloc _).drewN _⟩
end Go.Proofs.Ytpnoghnhlddjeaa.Hp
