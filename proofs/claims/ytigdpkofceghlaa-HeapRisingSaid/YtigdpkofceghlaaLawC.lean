/- Of tasks of one rule the first stays: walked. -/
import Derived.Test.YtigdpkofceghlaaLawB
namespace Go.Proofs.Ytigdpkofceghlaa.Hp
open Go.RowKit Go.Proofs.YtigdpkofceghlaaW.PrintWords Go.Proofs.YtigdpkofceghlaaW.PrintLast Go.Proofs.YtigdpkofceghlaaW.PrintMore Go.Proofs.Ytigdpkofceghlaa.Q Go.Proofs.Ytigdpkofceghlaa.Own
set_option linter.unusedVariables false
set_option linter.unusedSimpArgs false
attribute [local go_sem ↓] Go.wp_at_zero Go.wp_at_succ

theorem push_mem {s : List S29} {x y : S29} (h : y ∈ s) : y ∈ pushS s x := by
  unfold pushS
  split
  · exact h
  · exact (with_perm s x).mem_iff.2 (List.mem_cons_of_mem _ h)
theorem push_new_mem {s : List S29} {x : S29} (h : hasL s x.f0 = false) : x ∈ pushS s x := by
  unfold pushS
  rw [if_neg (by rw [h]; decide)]
  exact (with_perm s x).mem_iff.2 (List.mem_cons_self ..)
theorem push_mem_or {s : List S29} {x y : S29} (h : y ∈ pushS s x) : y = x ∨ y ∈ s := by
  unfold pushS at h
  split at h
  · exact .inr h
  · exact List.mem_cons.1 ((with_perm s x).mem_iff.1 h)
theorem fold_find (r : Int) (y : S29) : ∀ (l s : List S29), (y ∈ s ∨ (hasL s r = false ∧ l.find? (fun x => x.f0 == r) = some y)) → y ∈ l.foldl pushS s
  | [], s, .inl h => h
  | [], s, .inr h => by cases h.2
  | x :: l, s, .inl h => fold_find r y l (pushS s x) (.inl (push_mem h))
  | x :: l, s, .inr ⟨h1, h2⟩ => by
    refine fold_find r y l (pushS s x) ?_
    rw [List.find?_cons] at h2
    by_cases e : x.f0 = r
    · rw [show (x.f0 == r) = true by simpa using e] at h2
      injection h2 with h2
      subst h2
      exact .inl (push_new_mem (by rw [e]; exact h1))
    · rw [show (x.f0 == r) = false by simpa using e] at h2
      refine .inr ⟨hasL_false.2 fun z hz => ?_, h2⟩
      rcases push_mem_or hz with rfl | hz
      · exact e
      · exact hasL_false.1 h1 z hz
theorem find_news {l : List S29} (hg : ∀ x ∈ l, GoodT x) (hm : l.length ≤ 300) {x : S29} (hx : x ∈ l) : findT (newS l) x.f0 = findT l x.f0 := by
  have hh : hasL l x.f0 = true := hasL_true.2 ⟨x, hx, rfl⟩
  obtain ⟨h1, h2⟩ := find_in hh
  cases e : l.find? (fun y => y.f0 == x.f0) with
  | none => exact absurd (List.find?_eq_none.1 e x hx) (by simp)
  | some y =>
    have h3 := fold_find x.f0 y l [] (.inr ⟨rfl, e⟩)
    have h4 : findT l x.f0 = y := by unfold findT; rw [e]; rfl
    have h5 := find_hit h3 (good_news hg hm).once
    rw [h4] at h2
    rw [h2] at h5
    exact h5.trans h4.symm
set_option maxHeartbeats 8000000 in
set_option maxRecDepth 100000 in
theorem first_law (A0 : Option Addr) (c0 : Nat) (l0 : List S29) (W : World) (hr0 : Kd.C k29 W A0 l0.length l0) (hc0 : l0.length ≤ c0) (hm0 : l0.length ≤ 9223372036854775807) (y0 : l0.length * 16 ≤ 140737488351232) (hg0 : ∀ x ∈ l0, good29 x) :
    Calls Try.prog 3 #[.slice A0 l0.length c0] W fun e w' => e = .returned (.bool true) ∧ Below W.heap.size W w' := by
  have hu29 := Try.underlying29
  have HG : Aside0 (∀ x ∈ l0, GoodT x) := ⟨fun x hx => good_T (hg0 x hx)⟩
  have HC := Aside0.mk hr0
  have HCC := Aside0.mk hc0
  clear hr0 hg0 y0 hc0
  go_enter Try.func3, Try.ntmps3
  go_wp2_with fail
  refine (awake_calls _).mono ?_
  rintro e w1 ⟨rfl, hb⟩
  have HA1 := Aside0.mk ((Has.nil W).below hb)
  have HB1 := Aside0.mk hb
  clear hb
  by_cases h300 : (l0.length : Int) > 300
  · have d1 : decide ((l0.length : Int) > 300) = true := decide_eq_true h300
    go_wp2_with fail
    go_ret
    exact ⟨rfl, HB1.out⟩
  have d1 : decide ((l0.length : Int) > 300) = false := decide_eq_false h300
  have hl : l0.length ≤ 300 := by omega
  have hs := news_few (l := l0) hl
  have hs2 := fold_length l0 []
  rw [List.length_nil, Nat.zero_add] at hs2
  change (newS l0).length ≤ l0.length at hs2
  have HF : Aside0 (∀ x ∈ l0, findT (newS l0) x.f0 = findT l0 x.f0) := ⟨fun x hx => find_news HG.out hl hx⟩
  have HN := Aside0.mk (new_calls (c := c0) (Kd.C_below HC.out HB1.out) HG.out (by omega))
  generalize newS l0 = s at hs hs2 HF HN
  go_wp2_with fail
  refine HN.out.mono ?_
  rintro e w2 ⟨p, rfl, hA, hB⟩
  have HA2 := Aside0.mk (has_new HA1.out hB hA)
  have HB2 := Aside0.mk (HB1.out.trans (hB.mono HA1.out.size))
  clear hA hB HA1 HB1 HN
  go_wp2_with fail
  refine (all_calls HA2.out).mono ?_
  rintro e w3 ⟨v, rfl, hr, hb⟩
  have HA3 := Aside0.mk (HA2.out.row hb hr)
  have HB3 := Aside0.mk (HB2.out.trans (hb.mono HA2.out.size))
  clear hr hb HA2 HB2
  obtain ⟨A, c, rfl, hc, -⟩ := HA3.out.reads (d := k29) (e := 29) (v := v) (xs := s) (by simp)
  have HA3' : Aside0 (Has W.heap.size w3 [rowT k29 29 (.slice A s.length c) s]) := ⟨HA3.out.swap.tail⟩
  clear HA3
  go_wp2_with fail
  go_loopw [4] (fun k wr => ∃ kn : Int, k = .int .i64 kn ∧ 0 ≤ kn ∧ kn ≤ l0.length ∧ Aside0 (Has W.heap.size wr [rowT k29 29 (.slice A s.length c) s]) ∧ Aside0 (Below W.heap.size W wr)) (fun k _ => l0.length - (intOf k).toNat)
  case atStart => exact ⟨0, rfl, by omega, by omega, HA3', HB3⟩
  case round =>
    clear HA3' HB3
    obtain ⟨kn, rfl, hk0, hk1, HA, HB⟩ := hrel
    by_cases hlt : kn < l0.length
    · obtain ⟨ad, rfl, hi2, hi3⟩ := at_T29 HC.out kn hk0 hlt
      replace hi2 := pw_cell_below HB.out hi2
      clear hi3
      have d1 : decide (0 ≤ kn) = true := decide_eq_true hk0
      have d2 : decide (kn < (l0.length : Int)) = true := decide_eq_true hlt
      obtain ⟨A_, c_, ev_, -, hC2⟩ := HA.out.reads (d := k29) (e := 29) (v := .slice A s.length c) (xs := s) (by simp)
      cases ev_
      obtain ⟨x, hx⟩ : ∃ x, x = rd_T29 l0 kn := ⟨_, rfl⟩
      have hxm : x ∈ l0 := by rw [hx, show kn = ((kn.toNat : Nat) : Int) by omega]; exact rd_mem (by omega)
      rw [← hx] at hi2
      have HF1 : Aside0 (Calls Try.prog 13 #[.slice A s.length c, .int .u32 x.f0] wr.drew fun e w' => e = .returned (.agg #[.int .u32 (findT l0 x.f0).f0, .int .i64 (findT l0 x.f0).f1]) ∧ Below wr.drew.heap.size wr.drew w') := ⟨by rw [← HF.out x hxm]; exact findT_calls (Kd.C_below hC2 (below_drew (Below.refl _ wr))) hc (by omega) x.f0⟩
      have HF2 : Aside0 (∀ w3, Below wr.drew.heap.size wr.drew w3 → Calls Try.prog 13 #[.slice (some ad) l0.length c0, .int .u32 x.f0] w3 fun e w' => e = .returned (.agg #[.int .u32 (findT l0 x.f0).f0, .int .i64 (findT l0 x.f0).f1]) ∧ Below w3.heap.size w3 w') := ⟨fun w3 hb => findT_calls (Kd.C_below (Kd.C_below HC.out HB.out) (Below.trans (below_drew (Below.refl _ wr)) hb)) HCC.out (by omega) x.f0⟩
      generalize findT l0 x.f0 = y at HF1 HF2
      clear hx hxm hC2
      go_wp2_with fail
      refine start_ (n := 15) (S := fun w' => w'.cell? (ad.add (kn.toNat * 2)) = some (.int .u32 x.f0)) (ds := []) #[false, false, false, false, false, false, false, false, false, false, false, false, false, false, false] (by kernel_rfl) rfl rfl (hi2) (fun hHeld => ?_)
      refine pure_ (i := 0) (N := some 19) (v := ?_) (a' := ?_) #[true, false, false, false, false, false, false, false, false, false, false, false, false, false, false] rfl rfl (by kernel_rfl) (fun _ _ _ h => h) (Or.inl ⟨by rfl, ?_⟩) ?_ ?_
      rotate_left
      · intro w'
        go_simp
        with_reducible rfl
      rotate_left
      · simp only [Act.put, List.setIfInBounds_toArray, List.set_cons_zero, List.set_cons_succ, i64_w, i32_w]
        rfl
      refine pure_ (i := 1) (N := some 20) (v := ?_) (a' := ?_) #[true, true, false, false, false, false, false, false, false, false, false, false, false, false, false] rfl rfl (by kernel_rfl) (fun _ _ _ h => h) (Or.inl ⟨by rfl, ?_⟩) ?_ ?_
      rotate_left
      · intro w'
        go_simp
        with_reducible rfl
      rotate_left
      · simp only [Act.put, List.setIfInBounds_toArray, List.set_cons_zero, List.set_cons_succ, i64_w, i32_w]
        rfl
      refine pure_ (i := 2) (N := some 21) (v := ?_) (a' := ?_) #[true, true, true, false, false, false, false, false, false, false, false, false, false, false, false] rfl rfl (by kernel_rfl) (fun _ _ _ h => h) (Or.inl ⟨by rfl, ?_⟩) ?_ ?_
      rotate_left
      · intro w'
        go_simp
        with_reducible rfl
      rotate_left
      · simp only [Act.put, List.setIfInBounds_toArray, List.set_cons_zero, List.set_cons_succ, i64_w, i32_w]
        rfl
      refine pure_ (i := 3) (N := some 22) (v := ?_) (a' := ?_) #[true, true, true, true, false, false, false, false, false, false, false, false, false, false, false] rfl rfl (by kernel_rfl) (fun _ _ _ h => h) (Or.inl ⟨by rfl, ?_⟩) ?_ ?_
      rotate_left
      · intro w'
        go_simp
        with_reducible rfl
      rotate_left
      · simp only [Act.put, List.setIfInBounds_toArray, List.set_cons_zero, List.set_cons_succ, i64_w, i32_w]
        rfl
      refine pure_ (i := 4) (N := some 23) (v := ?_) (a' := ?_) #[true, true, true, true, true, false, false, false, false, false, false, false, false, false, false] rfl rfl (by kernel_rfl) (fun _ _ _ h => h) (Or.inl ⟨by rfl, ?_⟩) ?_ ?_
      rotate_left
      · intro w'
        go_simp
        with_reducible rfl
      rotate_left
      · simp only [Act.put, List.setIfInBounds_toArray, List.set_cons_zero, List.set_cons_succ, i64_w, i32_w]
        rfl
      refine pure_ (i := 7) (N := some 26) (v := ?_) (a' := ?_) #[true, true, true, true, true, false, false, true, false, false, false, false, false, false, false] rfl rfl (by kernel_rfl) (fun _ _ _ h => h) (Or.inl ⟨by rfl, ?_⟩) ?_ ?_
      rotate_left
      · intro w'
        go_simp
        with_reducible rfl
      rotate_left
      · simp only [Act.put, List.setIfInBounds_toArray, List.set_cons_zero, List.set_cons_succ, i64_w, i32_w]
        rfl
      refine pure_ (i := 8) (N := some 27) (v := ?_) (a' := ?_) #[true, true, true, true, true, false, false, true, true, false, false, false, false, false, false] rfl rfl (by kernel_rfl) (fun _ _ _ h => h) (Or.inl ⟨by rfl, ?_⟩) ?_ ?_
      rotate_left
      · intro w'
        go_simp
        with_reducible rfl
      rotate_left
      · simp only [Act.put, List.setIfInBounds_toArray, List.set_cons_zero, List.set_cons_succ, i64_w, i32_w]
        rfl
      refine pure_ (i := 9) (N := some 28) (v := ?_) (a' := ?_) #[true, true, true, true, true, false, false, true, true, true, false, false, false, false, false] rfl rfl (by kernel_rfl) (fun _ _ _ h => h) (Or.inl ⟨by rfl, ?_⟩) ?_ ?_
      rotate_left
      · intro w'
        go_simp
        with_reducible rfl
      rotate_left
      · simp only [Act.put, List.setIfInBounds_toArray, List.set_cons_zero, List.set_cons_succ, i64_w, i32_w]
        rfl
      refine pure_ (i := 10) (N := some 29) (v := ?_) (a' := ?_) #[true, true, true, true, true, false, false, true, true, true, true, false, false, false, false] rfl rfl (by kernel_rfl) (fun _ _ _ h => h) (Or.inl ⟨by rfl, ?_⟩) ?_ ?_
      rotate_left
      · intro w'
        go_simp
        with_reducible rfl
      rotate_left
      · simp only [Act.put, List.setIfInBounds_toArray, List.set_cons_zero, List.set_cons_succ, i64_w, i32_w]
        rfl
      refine pure_ (i := 11) (N := some 30) (v := ?_) (a' := ?_) #[true, true, true, true, true, false, false, true, true, true, true, true, false, false, false] rfl rfl (by kernel_rfl) (fun _ _ _ h => h) (Or.inl ⟨by rfl, ?_⟩) ?_ ?_
      rotate_left
      · intro w'
        go_simp
        with_reducible rfl
      rotate_left
      · simp only [Act.put, List.setIfInBounds_toArray, List.set_cons_zero, List.set_cons_succ, i64_w, i32_w]
        rfl
      refine take_ (i := 5) (N := some 24) (v := ?_) (a' := ?_) #[true, true, true, true, true, true, false, true, true, true, true, true, false, false, false] rfl rfl (by kernel_rfl) (fun _ _ _ h => h) (Or.inl ⟨by rfl, ?_⟩) hHeld ?_ ?_
      rotate_left
      · intro w' s0
        go_simp
        with_reducible rfl
      rotate_left
      · simp only [Act.put, List.setIfInBounds_toArray, List.set_cons_zero, List.set_cons_succ, i64_w, i32_w]
        rfl
      refine take_ (i := 12) (N := some 31) (v := ?_) (a' := ?_) #[true, true, true, true, true, true, false, true, true, true, true, true, true, false, false] rfl rfl (by kernel_rfl) (fun _ _ _ h => h) (Or.inl ⟨by rfl, ?_⟩) hHeld ?_ ?_
      rotate_left
      · intro w' s0
        go_simp
        with_reducible rfl
      rotate_left
      · simp only [Act.put, List.setIfInBounds_toArray, List.set_cons_zero, List.set_cons_succ, i64_w, i32_w]
        rfl
      refine one_ (i := 6) (N := some 25) #[true, true, true, true, true, true, true, true, true, true, true, true, true, false, false] rfl rfl (by kernel_rfl) (by decide) (fun K hK => ?_)
      refine goes_ Try.func13 (by kernel_rfl) rfl #[.slice A s.length c, .int .u32 x.f0] (by rfl) rfl rfl (by simp only [List.map_toArray, List.map_cons, List.map_nil]; rfl) ?_
      with_reducible refine (HF1.out).mono ?_
      rintro e w3 ⟨rfl, hb3⟩
      refine ⟨_, rfl, ?_⟩
      have hi4 := pw_cell_below hb3 (show wr.drew.cell? _ = _ from hi2)
      refine hK.out _ _ (hi4) (fun hHeld => ?_)
      clear hK K
      refine norm_ (a' := ?_) ?_ ?_
      rotate_left
      · show Act.put _ (some 25) _ = _
        simp only [Act.put, List.setIfInBounds_toArray, List.set_cons_zero, List.set_cons_succ, i64_w, i32_w]
        rfl
      refine one_ (i := 13) (N := some 32) #[true, true, true, true, true, true, true, true, true, true, true, true, true, true, false] rfl rfl (by kernel_rfl) (by decide) (fun K hK => ?_)
      refine goes_ Try.func13 (by kernel_rfl) rfl #[.slice (some ad) l0.length c0, .int .u32 x.f0] (by rfl) rfl rfl (by simp only [List.map_toArray, List.map_cons, List.map_nil]; rfl) ?_
      with_reducible refine (HF2.out _ hb3).mono ?_
      rintro e w4 ⟨rfl, hb4⟩
      refine ⟨_, rfl, ?_⟩
      have hi5 := pw_cell_below hb4 hi4
      refine hK.out _ _ (hi5) (fun hHeld => ?_)
      clear hK K
      refine norm_ (a' := ?_) ?_ ?_
      rotate_left
      · show Act.put _ (some 32) _ = _
        simp only [Act.put, List.setIfInBounds_toArray, List.set_cons_zero, List.set_cons_succ, i64_w, i32_w]
        rfl
      refine pure_ (i := 14) (N := some 33) (v := ?_) (a' := ?_) #[true, true, true, true, true, true, true, true, true, true, true, true, true, true, true] rfl rfl (by kernel_rfl) (fun _ _ _ h => h) (Or.inl ⟨by rfl, ?_⟩) ?_ ?_
      rotate_left
      · intro w'
        go_simp
        with_reducible rfl
      rotate_left
      · simp only [Act.put, List.setIfInBounds_toArray, List.set_cons_zero, List.set_cons_succ, i64_w, i32_w]
        rfl
      refine done_ (by kernel_rfl) ?_

      have HB4 := Aside0.mk ((below_drew (Below.refl _ wr)).trans (hb3.trans (hb4.mono hb3.size)))
      go_wp2
      go_roundw
      case rel => exact ⟨kn + 1, rfl, by omega, by omega, ⟨HA.out.below HB4.out⟩, ⟨HB.out.trans (HB4.out.mono HA.out.size)⟩⟩
      case measure => simp [intOf]; omega
    · have d2 : decide (kn < (l0.length : Int)) = false := decide_eq_false hlt
      have d3 : decide ((s.length : Int) ≤ (l0.length : Int)) = true := decide_eq_true (by omega)
      go_wp2
      go_ret
      exact ⟨rfl, HB.out⟩
end Go.Proofs.Ytigdpkofceghlaa.Hp
