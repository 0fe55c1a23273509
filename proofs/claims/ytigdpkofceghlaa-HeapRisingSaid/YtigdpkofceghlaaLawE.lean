/- In whatever order tasks of unlike rules are pushed: walked. -/
import Derived.Test.YtigdpkofceghlaaLawD
namespace Go.Proofs.Ytigdpkofceghlaa.Hp
open Go.RowKit Go.Proofs.YtigdpkofceghlaaW.PrintWords Go.Proofs.YtigdpkofceghlaaW.PrintLast Go.Proofs.YtigdpkofceghlaaW.PrintMore Go.Proofs.Ytigdpkofceghlaa.Q Go.Proofs.Ytigdpkofceghlaa.Own
set_option linter.unusedVariables false
set_option linter.unusedSimpArgs false
attribute [local go_sem ↓] Go.wp_at_zero Go.wp_at_succ

def Unlike (l : List S29) : Prop := l.Pairwise fun a b => a.f0 ≠ b.f0
theorem fold_perm : ∀ (l s : List S29), Unlike l → (∀ x ∈ l, hasL s x.f0 = false) → (l.foldl pushS s).Perm (l ++ s)
  | [], s, _, _ => List.Perm.refl _
  | x :: l, s, hu, hn => by
    obtain ⟨h1, h2⟩ := List.pairwise_cons.1 hu
    have hp : pushS s x = withL s x := by
      unfold pushS
      rw [if_neg (by rw [hn x (List.mem_cons_self ..)]; decide)]
    rw [List.foldl_cons, hp]
    refine (fold_perm l (withL s x) h2 fun y hy => hasL_false.2 fun z hz => ?_).trans ?_
    · rcases List.mem_cons.1 ((with_perm s x).mem_iff.1 hz) with rfl | hz
      · exact h1 y hy
      · exact hasL_false.1 (hn y (List.mem_cons_of_mem _ hy)) z hz
    · refine ((List.Perm.refl l).append (with_perm s x)).trans ?_
      exact List.perm_middle
theorem news_perm {l : List S29} (hu : Unlike l) : (newS l).Perm l := by
  have := fold_perm l [] hu fun _ _ => rfl
  rwa [List.append_nil] at this
theorem unlike_perm {l m : List S29} (hp : l.Perm m) (hu : Unlike l) : Unlike m := (hp.pairwise_iff (R := fun a b : S29 => a.f0 ≠ b.f0) (fun h => Ne.symm h)).1 hu
theorem news_same {l m : List S29} (hp : l.Perm m) (hu : Unlike l) (hg : ∀ x ∈ l, GoodT x) (hm : l.length ≤ 300) : newS l = newS m := by
  have h1 := good_news hg hm
  have h2 := good_news (l := m) (fun x hx => hg x (hp.mem_iff.2 hx)) (by rw [← hp.length_eq]; exact hm)
  exact rise_unique h1.rise h2.rise ((news_perm hu).trans (hp.trans (news_perm (unlike_perm hp hu)).symm))
/-- One more of unlike tasks. -/
theorem step_new {m : List S29} (hu : Unlike m) {i : Nat} (hi : i < m.length) (x : S29) (hx : m[i]? = some x) :
    pushE (newS (m.take i)) x = 0 ∧ pushS (newS (m.take i)) x = newS (m.take (i + 1)) := by
  have e : m[i] = x := by rw [List.getElem?_eq_getElem hi] at hx; injection hx
  have h1 : m.take (i + 1) = m.take i ++ [x] := by rw [List.take_succ_eq_append_getElem hi, e]
  refine ⟨?_, ?_⟩
  · unfold pushE
    refine if_neg ?_
    have : hasL (newS (m.take i)) x.f0 = false := hasL_false.2 fun y hy => by
      have hy := news_sub y hy
      obtain ⟨k, hk, rfl⟩ := List.getElem_of_mem hy
      rw [List.length_take] at hk
      have := List.pairwise_iff_getElem.1 hu k i (by omega) hi (by omega)
      rw [e] at this
      rw [List.getElem_take]
      exact this
    rw [this]
    decide
  · rw [h1]
    unfold newS
    rw [List.foldl_append]
    rfl
theorem rot_get (l : List S29) (f i : Nat) (hf : f < l.length) (hi : i < l.length) : (l.drop f ++ l.take f)[i]? = some (rd_T29 l (((f + i) % l.length : Nat) : Int)) := by
  have h0 : (f + i) % l.length < l.length := Nat.mod_lt _ (by omega)
  rw [rd_nat l h0]
  by_cases h : f + i < l.length
  · rw [List.getElem?_append_left (by rw [List.length_drop]; omega), List.getElem?_drop, List.getElem?_eq_getElem (by omega)]
    simp only [Nat.mod_eq_of_lt h]
  · have e : (f + i) % l.length = f + i - l.length := by
      rw [Nat.mod_eq_sub_mod (by omega), Nat.mod_eq_of_lt (by omega)]
    rw [List.getElem?_append_right (by rw [List.length_drop]; omega), List.length_drop, List.getElem?_take_of_lt (by omega), List.getElem?_eq_getElem (by omega)]
    simp only [e]
    congr 2
    omega
theorem rot_perm (l : List S29) (f : Nat) : l.Perm (l.drop f ++ l.take f) := by
  have := List.perm_append_comm (l₁ := l.take f) (l₂ := l.drop f)
  rwa [List.take_append_drop] at this
theorem rev_get (l : List S29) (i : Nat) (hi : i < l.length) : l.reverse[i]? = some (rd_T29 l ((l.length - 1 - i : Nat) : Int)) := by
  rw [rd_nat l (by omega), List.getElem?_reverse hi, List.getElem?_eq_getElem (by omega)]
theorem id_get (l : List S29) (i : Nat) (hi : i < l.length) : l[i]? = some (rd_T29 l (i : Int)) := by
  rw [rd_nat l hi, List.getElem?_eq_getElem hi]
def Far (l : List S29) (n : Nat) : Prop := ∀ i k : Nat, i < n → k < i → (rd_T29 l (i : Int)).f0 ≠ (rd_T29 l (k : Int)).f0
theorem far_unlike {l : List S29} (h : Far l l.length) : Unlike l := by
  refine List.pairwise_iff_getElem.2 fun i j hi hj hij => ?_
  have := h j i hj hij
  rw [rd_nat l hi, rd_nat l hj] at this
  exact Ne.symm this
def HRel (W : World) (pa pb pc : Nat) (la lb lc : List S29) (i : Nat) (wr : World) : Prop :=
  Has W.heap.size wr [heapT pa (newS (la.take i)), heapT pb (newS (lb.take i)), heapT pc (newS (lc.take i))] ∧ Below W.heap.size W wr
set_option maxHeartbeats 8000000 in
set_option maxRecDepth 100000 in
theorem order_law (A0 : Option Addr) (c0 : Nat) (l0 : List S29) (a1 : Int) (W : World) (hr0 : Kd.C k29 W A0 l0.length l0) (hc0 : l0.length ≤ c0) (hm0 : l0.length ≤ 9223372036854775807) (y0 : l0.length * 16 ≤ 140737488351232) (hg0 : ∀ x ∈ l0, good29 x) (w1 : (Lit.int .i64 a1).wf = true) :
    Calls Try.prog 5 #[.slice A0 l0.length c0, .int .i64 a1] W fun e w' => e = .returned (.bool true) ∧ Below W.heap.size W w' := by
  have hu29 := Try.underlying29
  have HG : Aside0 (∀ x ∈ l0, GoodT x) := ⟨fun x hx => good_T (hg0 x hx)⟩
  have HC := Aside0.mk hr0
  have HCC := Aside0.mk hc0
  have ha1 : -9223372036854775808 ≤ a1 ∧ a1 ≤ 9223372036854775807 := (Lit.wf_int_iff _ _).1 w1
  have HA1_ := Aside0.mk ha1
  clear hr0 hg0 y0 hc0 w1 ha1
  go_enter Try.func5, Try.ntmps5
  go_wp2_with fail
  refine (awake_calls _).mono ?_
  rintro e w1 ⟨rfl, hb⟩
  have HA1 := Aside0.mk ((Has.nil W).below hb)
  have HB1 := Aside0.mk hb
  clear hb
  by_cases h300 : (l0.length : Int) > 300
  · have d1 : decide ((l0.length : Int) > 300) = true := decide_eq_true h300
    go_wp2_with fail
    go_ret
    exact ⟨rfl, HB1.out⟩
  have d1 : decide ((l0.length : Int) > 300) = false := decide_eq_false h300
  by_cases h0 : (l0.length : Int) = 0
  · have d2 : ((l0.length : Int) == 0) = true := beq_iff_eq.2 h0
    go_wp2_with fail
    go_ret
    exact ⟨rfl, HB1.out⟩
  have d2 : ((l0.length : Int) == 0) = false := beq_eq_false_iff_ne.2 h0
  have hl : l0.length ≤ 300 := by omega
  have HH0 : Aside0 (0 < l0.length) := ⟨by omega⟩
  clear h0
  go_wp2_with fail
  clear d2 d1
  go_loopw [5] (fun k wr => ∃ kn : Int, k = .int .i64 kn ∧ 0 ≤ kn ∧ kn ≤ l0.length ∧ Aside0 (Far l0 kn.toNat) ∧ Aside0 (Has W.heap.size wr []) ∧ Aside0 (Below W.heap.size W wr)) (fun k _ => l0.length - (intOf k).toNat)
  case atStart => exact ⟨0, rfl, by omega, by omega, ⟨fun i k h => absurd h (Nat.not_lt_zero _)⟩, HA1, HB1⟩
  case round =>
    clear HA1 HB1
    obtain ⟨kn, rfl, hk0, hk1, HF, HA, HB⟩ := hrel
    by_cases hlt : kn < l0.length
    · obtain ⟨ad, rfl, hi2, hi3⟩ := at_T29 HC.out kn hk0 hlt
      have HI2 := Aside0.mk (pw_cell_below HB.out hi2)
      have HKW := Aside0.mk HB.out
      clear hi2 hi3
      have d3 : decide (0 ≤ kn) = true := decide_eq_true hk0
      have d4 : decide (kn < (l0.length : Int)) = true := decide_eq_true hlt
      go_wp2_with fail
      go_loopw [6] (fun k wr' => ∃ jn : Int, k = .int .i64 jn ∧ 0 ≤ jn ∧ jn ≤ kn ∧ Aside0 (∀ j : Nat, (j : Int) < jn → (rd_T29 l0 kn).f0 ≠ (rd_T29 l0 (j : Int)).f0) ∧ Aside0 (Has W.heap.size wr' []) ∧ Aside0 (Below W.heap.size W wr')) (fun k _ => kn.toNat - (intOf k).toNat)
      case atStart => exact ⟨0, rfl, by omega, by omega, ⟨fun j h => by omega⟩, HA, HB⟩
      case round =>
        clear HA HB
        obtain ⟨jn, rfl, hj0, hj1, HJ, HA2, HB2⟩ := hrel
        by_cases hjt : jn < kn
        · have d5 : decide (jn < kn) = true := decide_eq_true hjt
          obtain ⟨ad', e0, hi4, hi5⟩ := at_T29 HC.out jn hj0 (by omega)
          cases e0
          obtain ⟨x, hx⟩ : ∃ x, x = (rd_T29 l0 kn).f0 := ⟨_, rfl⟩
          obtain ⟨y, hy⟩ : ∃ y, y = (rd_T29 l0 jn).f0 := ⟨_, rfl⟩
          have hi2 := (at_T29 HC.out kn hk0 hlt)
          obtain ⟨ad', e0, hi2, -⟩ := hi2
          cases e0
          replace hi2 := pw_cell_below HB2.out hi2
          replace hi4 := pw_cell_below HB2.out hi4
          rw [← hx] at hi2 HJ
          rw [← hy] at hi4
          have HY := Aside0.mk hy
          have HX := Aside0.mk hx
          clear hi5 hx hy HI2 HKW
          have d6 : decide (0 ≤ jn) = true := decide_eq_true hj0
          have d7 : jn < (l0.length : Int) := by omega
          by_cases e : x = y
          · subst e
            go_wp2_with fail
            refine start_ (n := 11) (S := fun w' => w'.cell? (ad.add (kn.toNat * 2)) = some (.int .u32 x) ∧ w'.cell? (ad.add (jn.toNat * 2)) = some (.int .u32 x)) (ds := []) #[false, false, false, false, false, false, false, false, false, false, false] (by kernel_rfl) rfl rfl ⟨hi2, hi4⟩ (fun hHeld => ?_)
            refine pure_ (i := 0) (N := some 32) (v := ?_) (a' := ?_) #[true, false, false, false, false, false, false, false, false, false, false] rfl rfl (by kernel_rfl) (fun _ _ _ h => h) (Or.inl ⟨by rfl, ?_⟩) ?_ ?_
            rotate_left
            · intro w'
              go_simp
              with_reducible rfl
            rotate_left
            · simp only [Act.put, List.setIfInBounds_toArray, List.set_cons_zero, List.set_cons_succ, i64_w, i32_w]
              rfl
            refine pure_ (i := 1) (N := some 33) (v := ?_) (a' := ?_) #[true, true, false, false, false, false, false, false, false, false, false] rfl rfl (by kernel_rfl) (fun _ _ _ h => h) (Or.inl ⟨by rfl, ?_⟩) ?_ ?_
            rotate_left
            · intro w'
              go_simp
              with_reducible rfl
            rotate_left
            · simp only [Act.put, List.setIfInBounds_toArray, List.set_cons_zero, List.set_cons_succ, i64_w, i32_w]
              rfl
            refine pure_ (i := 2) (N := some 34) (v := ?_) (a' := ?_) #[true, true, true, false, false, false, false, false, false, false, false] rfl rfl (by kernel_rfl) (fun _ _ _ h => h) (Or.inl ⟨by rfl, ?_⟩) ?_ ?_
            rotate_left
            · intro w'
              go_simp
              with_reducible rfl
            rotate_left
            · simp only [Act.put, List.setIfInBounds_toArray, List.set_cons_zero, List.set_cons_succ, i64_w, i32_w]
              rfl
            refine pure_ (i := 3) (N := some 35) (v := ?_) (a' := ?_) #[true, true, true, true, false, false, false, false, false, false, false] rfl rfl (by kernel_rfl) (fun _ _ _ h => h) (Or.inl ⟨by rfl, ?_⟩) ?_ ?_
            rotate_left
            · intro w'
              go_simp
              with_reducible rfl
            rotate_left
            · simp only [Act.put, List.setIfInBounds_toArray, List.set_cons_zero, List.set_cons_succ, i64_w, i32_w]
              rfl
            refine pure_ (i := 5) (N := some 37) (v := ?_) (a' := ?_) #[true, true, true, true, false, true, false, false, false, false, false] rfl rfl (by kernel_rfl) (fun _ _ _ h => h) (Or.inl ⟨by rfl, ?_⟩) ?_ ?_
            rotate_left
            · intro w'
              go_simp
              with_reducible rfl
            rotate_left
            · simp only [Act.put, List.setIfInBounds_toArray, List.set_cons_zero, List.set_cons_succ, i64_w, i32_w]
              rfl
            refine pure_ (i := 6) (N := some 38) (v := ?_) (a' := ?_) #[true, true, true, true, false, true, true, false, false, false, false] rfl rfl (by kernel_rfl) (fun _ _ _ h => h) (Or.inl ⟨by rfl, ?_⟩) ?_ ?_
            rotate_left
            · intro w'
              go_simp
              with_reducible rfl
            rotate_left
            · simp only [Act.put, List.setIfInBounds_toArray, List.set_cons_zero, List.set_cons_succ, i64_w, i32_w]
              rfl
            refine pure_ (i := 7) (N := some 39) (v := ?_) (a' := ?_) #[true, true, true, true, false, true, true, true, false, false, false] rfl rfl (by kernel_rfl) (fun _ _ _ h => h) (Or.inl ⟨by rfl, ?_⟩) ?_ ?_
            rotate_left
            · intro w'
              go_simp
              with_reducible rfl
            rotate_left
            · simp only [Act.put, List.setIfInBounds_toArray, List.set_cons_zero, List.set_cons_succ, i64_w, i32_w]
              rfl
            refine pure_ (i := 8) (N := some 40) (v := ?_) (a' := ?_) #[true, true, true, true, false, true, true, true, true, false, false] rfl rfl (by kernel_rfl) (fun _ _ _ h => h) (Or.inl ⟨by rfl, ?_⟩) ?_ ?_
            rotate_left
            · intro w'
              go_simp
              with_reducible rfl
            rotate_left
            · simp only [Act.put, List.setIfInBounds_toArray, List.set_cons_zero, List.set_cons_succ, i64_w, i32_w]
              rfl
            refine take_ (i := 4) (N := some 36) (v := ?_) (a' := ?_) #[true, true, true, true, true, true, true, true, true, false, false] rfl rfl (by kernel_rfl) (fun _ _ _ h => h) (Or.inl ⟨by rfl, ?_⟩) hHeld ?_ ?_
            rotate_left
            · rintro w' ⟨s0, s1⟩
              go_simp
              with_reducible rfl
            rotate_left
            · simp only [Act.put, List.setIfInBounds_toArray, List.set_cons_zero, List.set_cons_succ, i64_w, i32_w]
              rfl
            refine take_ (i := 9) (N := some 41) (v := ?_) (a' := ?_) #[true, true, true, true, true, true, true, true, true, true, false] rfl rfl (by kernel_rfl) (fun _ _ _ h => h) (Or.inl ⟨by rfl, ?_⟩) hHeld ?_ ?_
            rotate_left
            · rintro w' ⟨s0, s1⟩
              go_simp
              with_reducible rfl
            rotate_left
            · simp only [Act.put, List.setIfInBounds_toArray, List.set_cons_zero, List.set_cons_succ, i64_w, i32_w]
              rfl
            refine pure_ (i := 10) (N := some 42) (v := ?_) (a' := ?_) #[true, true, true, true, true, true, true, true, true, true, true] rfl rfl (by kernel_rfl) (fun _ _ _ h => h) (Or.inl ⟨by rfl, ?_⟩) ?_ ?_
            rotate_left
            · intro w'
              go_simp
              with_reducible rfl
            rotate_left
            · simp only [Act.put, List.setIfInBounds_toArray, List.set_cons_zero, List.set_cons_succ, i64_w, i32_w]
              rfl
            refine done_ (by kernel_rfl) ?_

            go_wp2
            go_ret
            exact ⟨rfl, (below_drew HB2.out)⟩
          · have e1 : (x == y) = false := beq_eq_false_iff_ne.2 e
            have E := Aside0.mk e
            clear e
            go_wp2_with fail
            refine start_ (n := 11) (S := fun w' => w'.cell? (ad.add (kn.toNat * 2)) = some (.int .u32 x) ∧ w'.cell? (ad.add (jn.toNat * 2)) = some (.int .u32 y)) (ds := []) #[false, false, false, false, false, false, false, false, false, false, false] (by kernel_rfl) rfl rfl ⟨hi2, hi4⟩ (fun hHeld => ?_)
            refine pure_ (i := 0) (N := some 32) (v := ?_) (a' := ?_) #[true, false, false, false, false, false, false, false, false, false, false] rfl rfl (by kernel_rfl) (fun _ _ _ h => h) (Or.inl ⟨by rfl, ?_⟩) ?_ ?_
            rotate_left
            · intro w'
              go_simp
              with_reducible rfl
            rotate_left
            · simp only [Act.put, List.setIfInBounds_toArray, List.set_cons_zero, List.set_cons_succ, i64_w, i32_w]
              rfl
            refine pure_ (i := 1) (N := some 33) (v := ?_) (a' := ?_) #[true, true, false, false, false, false, false, false, false, false, false] rfl rfl (by kernel_rfl) (fun _ _ _ h => h) (Or.inl ⟨by rfl, ?_⟩) ?_ ?_
            rotate_left
            · intro w'
              go_simp
              with_reducible rfl
            rotate_left
            · simp only [Act.put, List.setIfInBounds_toArray, List.set_cons_zero, List.set_cons_succ, i64_w, i32_w]
              rfl
            refine pure_ (i := 2) (N := some 34) (v := ?_) (a' := ?_) #[true, true, true, false, false, false, false, false, false, false, false] rfl rfl (by kernel_rfl) (fun _ _ _ h => h) (Or.inl ⟨by rfl, ?_⟩) ?_ ?_
            rotate_left
            · intro w'
              go_simp
              with_reducible rfl
            rotate_left
            · simp only [Act.put, List.setIfInBounds_toArray, List.set_cons_zero, List.set_cons_succ, i64_w, i32_w]
              rfl
            refine pure_ (i := 3) (N := some 35) (v := ?_) (a' := ?_) #[true, true, true, true, false, false, false, false, false, false, false] rfl rfl (by kernel_rfl) (fun _ _ _ h => h) (Or.inl ⟨by rfl, ?_⟩) ?_ ?_
            rotate_left
            · intro w'
              go_simp
              with_reducible rfl
            rotate_left
            · simp only [Act.put, List.setIfInBounds_toArray, List.set_cons_zero, List.set_cons_succ, i64_w, i32_w]
              rfl
            refine pure_ (i := 5) (N := some 37) (v := ?_) (a' := ?_) #[true, true, true, true, false, true, false, false, false, false, false] rfl rfl (by kernel_rfl) (fun _ _ _ h => h) (Or.inl ⟨by rfl, ?_⟩) ?_ ?_
            rotate_left
            · intro w'
              go_simp
              with_reducible rfl
            rotate_left
            · simp only [Act.put, List.setIfInBounds_toArray, List.set_cons_zero, List.set_cons_succ, i64_w, i32_w]
              rfl
            refine pure_ (i := 6) (N := some 38) (v := ?_) (a' := ?_) #[true, true, true, true, false, true, true, false, false, false, false] rfl rfl (by kernel_rfl) (fun _ _ _ h => h) (Or.inl ⟨by rfl, ?_⟩) ?_ ?_
            rotate_left
            · intro w'
              go_simp
              with_reducible rfl
            rotate_left
            · simp only [Act.put, List.setIfInBounds_toArray, List.set_cons_zero, List.set_cons_succ, i64_w, i32_w]
              rfl
            refine pure_ (i := 7) (N := some 39) (v := ?_) (a' := ?_) #[true, true, true, true, false, true, true, true, false, false, false] rfl rfl (by kernel_rfl) (fun _ _ _ h => h) (Or.inl ⟨by rfl, ?_⟩) ?_ ?_
            rotate_left
            · intro w'
              go_simp
              with_reducible rfl
            rotate_left
            · simp only [Act.put, List.setIfInBounds_toArray, List.set_cons_zero, List.set_cons_succ, i64_w, i32_w]
              rfl
            refine pure_ (i := 8) (N := some 40) (v := ?_) (a' := ?_) #[true, true, true, true, false, true, true, true, true, false, false] rfl rfl (by kernel_rfl) (fun _ _ _ h => h) (Or.inl ⟨by rfl, ?_⟩) ?_ ?_
            rotate_left
            · intro w'
              go_simp
              with_reducible rfl
            rotate_left
            · simp only [Act.put, List.setIfInBounds_toArray, List.set_cons_zero, List.set_cons_succ, i64_w, i32_w]
              rfl
            refine take_ (i := 4) (N := some 36) (v := ?_) (a' := ?_) #[true, true, true, true, true, true, true, true, true, false, false] rfl rfl (by kernel_rfl) (fun _ _ _ h => h) (Or.inl ⟨by rfl, ?_⟩) hHeld ?_ ?_
            rotate_left
            · rintro w' ⟨s0, s1⟩
              go_simp
              with_reducible rfl
            rotate_left
            · simp only [Act.put, List.setIfInBounds_toArray, List.set_cons_zero, List.set_cons_succ, i64_w, i32_w]
              rfl
            refine take_ (i := 9) (N := some 41) (v := ?_) (a' := ?_) #[true, true, true, true, true, true, true, true, true, true, false] rfl rfl (by kernel_rfl) (fun _ _ _ h => h) (Or.inl ⟨by rfl, ?_⟩) hHeld ?_ ?_
            rotate_left
            · rintro w' ⟨s0, s1⟩
              go_simp
              with_reducible rfl
            rotate_left
            · simp only [Act.put, List.setIfInBounds_toArray, List.set_cons_zero, List.set_cons_succ, i64_w, i32_w]
              rfl
            refine pure_ (i := 10) (N := some 42) (v := ?_) (a' := ?_) #[true, true, true, true, true, true, true, true, true, true, true] rfl rfl (by kernel_rfl) (fun _ _ _ h => h) (Or.inl ⟨by rfl, ?_⟩) ?_ ?_
            rotate_left
            · intro w'
              go_simp
              with_reducible rfl
            rotate_left
            · simp only [Act.put, List.setIfInBounds_toArray, List.set_cons_zero, List.set_cons_succ, i64_w, i32_w]
              rfl
            refine done_ (by kernel_rfl) ?_

            go_wp2
            go_roundw
            case rel => exact ⟨jn + 1, rfl, by omega, by omega, ⟨fun j hj => by
              by_cases q : (j : Int) < jn
              · rw [← HX.out]; exact HJ.out j q
              · rw [show (j : Int) = jn by omega, ← HX.out, ← HY.out]; exact E.out⟩, ⟨HA2.out.drew⟩, ⟨below_drew HB2.out⟩⟩
            case measure => simp [intOf]; omega
        · have d5 : decide (jn < kn) = false := decide_eq_false hjt
          go_wp2_with fail
          go_roundw
          case rel => exact ⟨kn + 1, rfl, by omega, by omega, ⟨fun i k hi hk => by
              by_cases q : i < kn.toNat
              · exact HF.out i k q hk
              · rw [show (i : Int) = kn by omega]; exact HJ.out k (by omega)⟩, HA2, HB2⟩
          case measure => simp [intOf]; omega
    · have d4 : decide (kn < (l0.length : Int)) = false := decide_eq_false hlt
      have HU := Aside0.mk (far_unlike (l := l0) (by have := HF.out; rwa [show kn.toNat = l0.length by omega] at this))
      go_wp2_with fail
      refine (new_calls (A := none) (c := 0) (l := []) (Kd.C_nil _ _) (fun x h => by cases h) (by decide)).mono ?_
      rintro e w2 ⟨pa, rfl, hA, hB⟩
      have HA2 := Aside0.mk (has_new HA.out hB hA)
      have HB2 := Aside0.mk (HB.out.trans (hB.mono HA.out.size))
      clear hA hB HA HB
      go_wp2_with fail
      refine (new_calls (A := none) (c := 0) (l := []) (Kd.C_nil _ _) (fun x h => by cases h) (by decide)).mono ?_
      rintro e w3 ⟨pb, rfl, hA, hB⟩
      have HA3 := Aside0.mk (has_new HA2.out hB hA)
      have HB3 := Aside0.mk (HB2.out.trans (hB.mono HA2.out.size))
      clear hA hB HA2 HB2
      go_wp2_with fail
      refine (new_calls (A := none) (c := 0) (l := []) (Kd.C_nil _ _) (fun x h => by cases h) (by decide)).mono ?_
      rintro e w4 ⟨pc, rfl, hA, hB⟩
      have HA4 := Aside0.mk (has_new HA3.out hB hA).back3.swap
      have HB4 := Aside0.mk (HB3.out.trans (hB.mono HA3.out.size))
      clear hA hB HA3 HB3 HF
      have hne : (l0.length : Int) ≠ 0 := by have := HH0.out; omega
      have hne2 : ((l0.length : Int) == 0) = false := beq_eq_false_iff_ne.2 hne
      obtain ⟨f, hfl, hf⟩ : ∃ f : Nat, f < l0.length ∧ (wrap64 (a1.tmod l0.length + l0.length)).tmod l0.length = (f : Int) := by
        have hpos : (0 : Int) < (l0.length : Int) := by omega
        have m0 := Int.tmod_lt_of_pos a1 hpos
        have m1 := Int.lt_tmod_of_pos a1 hpos
        generalize a1.tmod l0.length = q at m0 m1
        rw [show wrap64 (q + l0.length) = q + l0.length by unfold wrap64; omega]
        have m2 := Int.tmod_lt_of_pos (q + l0.length) hpos
        have m3 := Int.tmod_nonneg (l0.length : Int) (a := q + l0.length) (by omega)
        generalize (q + (l0.length : Int)).tmod l0.length = r at m2 m3
        exact ⟨r.toNat, by omega, by omega⟩
      go_wp2_with fail
      clear hf
      have HR0 : Aside0 (HRel W pa pb pc l0 (l0.drop f ++ l0.take f) l0.reverse 0 w4) := ⟨HA4.out, HB4.out⟩
      have HFL := Aside0.mk hfl
      clear HA4 HB4 hfl hne2
      go_loopw [10] (fun k wr => ∃ kn : Int, k = .int .i64 kn ∧ 0 ≤ kn ∧ kn ≤ l0.length ∧ Aside0 (HRel W pa pb pc l0 (l0.drop f ++ l0.take f) l0.reverse kn.toNat wr)) (fun k _ => l0.length - (intOf k).toNat)
      case atStart => exact ⟨0, rfl, by omega, by omega, HR0⟩
      case round =>
        clear HR0
        obtain ⟨in_, rfl, hi0, hi1, HR⟩ := hrel
        by_cases hit : in_ < l0.length
        · obtain ⟨n, rfl⟩ : ∃ n : Nat, in_ = (n : Int) := ⟨in_.toNat, by omega⟩
          have hn : n < l0.length := by omega
          obtain ⟨hA, hB⟩ := HR.out
          rw [Int.toNat_natCast] at hA
          have jb : ∃ jb : Nat, jb = (f + n) % l0.length := ⟨_, rfl⟩
          obtain ⟨jb, hjb⟩ := jb
          have hjbl : jb < l0.length := by rw [hjb]; exact Nat.mod_lt _ (by omega)
          have eb : (wrap64 ((f : Int) + (n : Int))).tmod (l0.length : Int) = (jb : Int) := by
            have := HFL.out
            rw [show wrap64 ((f : Int) + (n : Int)) = (((f + n) : Nat) : Int) by unfold wrap64; omega, hjb]
            exact (Int.ofNat_tmod _ _).symm
          obtain ⟨jc, hjc⟩ : ∃ jc : Nat, jc = l0.length - 1 - n := ⟨_, rfl⟩
          have hjcl : jc < l0.length := by omega
          have ec : wrap64 (wrap64 ((l0.length : Int) - 1) - (n : Int)) = (jc : Int) := by unfold wrap64; omega
          obtain ⟨ad, e0, ha2, ha3⟩ := at_T29 HC.out (n : Int) (by omega) (by omega)
          subst e0
          obtain ⟨ad', e0, hb2, hb3⟩ := at_T29 HC.out (jb : Int) (by omega) (by omega)
          cases e0
          obtain ⟨ad', e0, hc2, hc3⟩ := at_T29 HC.out (jc : Int) (by omega) (by omega)
          cases e0
          rw [Int.toNat_natCast] at ha2 ha3 hb2 hb3 hc2 hc3
          obtain ⟨sa1, sa2⟩ := step_new HU.out hn _ (id_get l0 n hn)
          have hlb : (l0.drop f ++ l0.take f).length = l0.length := by rw [← (rot_perm l0 f).length_eq]
          obtain ⟨sb1, sb2⟩ := step_new (unlike_perm (rot_perm l0 f) HU.out) (i := n) (by omega) _ (rot_get l0 f n HFL.out hn)
          obtain ⟨sc1, sc2⟩ := step_new (unlike_perm (List.reverse_perm l0).symm HU.out) (i := n) (by simpa using hn) _ (rev_get l0 n hn)
          rw [← hjb] at sb1 sb2
          rw [← hjc] at sc1 sc2
          have ga : GoodT (rd_T29 l0 (n : Int)) := HG.out _ (rd_mem hn)
          have gb : GoodT (rd_T29 l0 (jb : Int)) := HG.out _ (rd_mem hjbl)
          have gc : GoodT (rd_T29 l0 (jc : Int)) := HG.out _ (rd_mem hjcl)
          have fa : (newS (l0.take n)).length < 1000000 := by have := news_few (l := l0.take n) (by rw [List.length_take]; omega); omega
          have fb : (newS ((l0.drop f ++ l0.take f).take n)).length < 1000000 := by have := news_few (l := (l0.drop f ++ l0.take f).take n) (by rw [List.length_take]; omega); omega
          have fc : (newS (l0.reverse.take n)).length < 1000000 := by have := news_few (l := l0.reverse.take n) (by rw [List.length_take]; omega); omega
          generalize rd_T29 l0 (n : Int) = xa at ha2 ha3 sa1 sa2 ga
          generalize rd_T29 l0 (jb : Int) = xb at hb2 hb3 sb1 sb2 gb
          generalize rd_T29 l0 (jc : Int) = xc at hc2 hc3 sc1 sc2 gc
          have HP1 := Aside0.mk (push_calls hA xa ga fa)
          rw [sa1, sa2] at HP1
          have HP2 := Aside0.mk (fun (w : World) (h : Has W.heap.size w [heapT pb (newS ((l0.drop f ++ l0.take f).take n)), heapT pa (newS (l0.take (n + 1))), heapT pc (newS (l0.reverse.take n))]) => push_calls h xb gb fb)
          rw [sb1, sb2] at HP2
          have HP3 := Aside0.mk (fun (w : World) (h : Has W.heap.size w [heapT pc (newS (l0.reverse.take n)), heapT pb (newS ((l0.drop f ++ l0.take f).take (n + 1))), heapT pa (newS (l0.take (n + 1)))]) => push_calls h xc gc fc)
          rw [sc1, sc2] at HP3
          have p2 := pw_cell_below hB ha2
          have p3 := pw_cell_below hB ha3
          have HJC := Aside0.mk hjc
          have HB0 := Aside0.mk hB
          have HB2 := Aside0.mk hb2
          have HB3 := Aside0.mk hb3
          have HC2 := Aside0.mk hc2
          have HC3 := Aside0.mk hc3
          clear sa1 sa2 sb1 sb2 sc1 sc2 ga gb gc fa fb fc hA hB ha2 ha3 hb2 hb3 hc2 hc3 hlb HR hjb hjc
          go_wp2_with fail
          refine HP1.out.mono ?_
          rintro e w5 ⟨rfl, hA, hB⟩
          have HA5 := Aside0.mk hA.swap
          have HB5 := Aside0.mk (HB0.out.trans hB)
          clear hA hB HP1 HB0 p2 p3
          have p2 := pw_cell_below HB5.out HB2.out
          have p3 := pw_cell_below HB5.out HB3.out
          go_wp2_with fail
          refine (HP2.out _ HA5.out).mono ?_
          rintro e w6 ⟨rfl, hA, hB⟩
          have HA6 := Aside0.mk hA.third
          have HB6 := Aside0.mk (HB5.out.trans hB)
          clear hA hB HP2 HB5 HA5 p2 p3
          have p2 := pw_cell_below HB6.out HC2.out
          have p3 := pw_cell_below HB6.out HC3.out
          rw [HJC.out] at p2 p3
          go_wp2_with fail
          refine (HP3.out _ HA6.out).mono ?_
          rintro e w7 ⟨rfl, hA, hB⟩
          have HA7 := Aside0.mk hA.third.swap.third.third
          have HB7 := Aside0.mk (HB6.out.trans hB)
          clear hA hB HP3 HB6 HA6 p2 p3
          go_wp2_with fail
          go_roundw
          case rel => exact ⟨(n : Int) + 1, rfl, by omega, by omega, ⟨by rw [show ((n : Int) + 1).toNat = n + 1 by omega]; exact ⟨HA7.out, HB7.out⟩⟩⟩
          case measure => simp [intOf]; omega
        · have e1 : in_.toNat = l0.length := by omega
          obtain ⟨hA, hB⟩ := HR.out
          have hlb : (l0.drop f ++ l0.take f).length = l0.length := by rw [← (rot_perm l0 f).length_eq]
          rw [e1, List.take_length (l := l0), show (l0.drop f ++ l0.take f).take l0.length = l0.drop f ++ l0.take f from List.take_of_length_le (by omega), show l0.reverse.take l0.length = l0.reverse from List.take_of_length_le (by simp), ← news_same (rot_perm l0 f) HU.out HG.out hl, ← news_same (List.reverse_perm l0).symm HU.out HG.out hl] at hA
          have hlen : (newS l0).length = l0.length := (news_perm HU.out).length_eq
          generalize newS l0 = s at hA hlen
          have HA5 := Aside0.mk hA
          have HB5 := Aside0.mk hB
          have d9 : decide (in_ < (l0.length : Int)) = false := decide_eq_false hit
          clear hA hB HR hlb e1
          go_wp2_with fail
          refine (all_calls HA5.out).mono ?_
          rintro e w5 ⟨v1, rfl, hr, hb⟩
          have HA6 := Aside0.mk (HA5.out.row hb hr)
          have HB6 := Aside0.mk (HB5.out.trans (hb.mono HA5.out.size))
          clear hr hb HA5 HB5
          go_wp2_with fail
          refine (all_calls HA6.out.third).mono ?_
          rintro e w6 ⟨v2, rfl, hr, hb⟩
          have HA7 := Aside0.mk (HA6.out.third.row hb hr)
          have HB7 := Aside0.mk (HB6.out.trans (hb.mono HA6.out.size))
          clear hr hb HA6 HB6
          go_wp2_with fail
          have hs3 : s.length ≤ 1000000 := by omega
          refine (same_calls (s := s) (t := s) HA7.out (by simp) (by simp) hs3).mono ?_
          rintro e w7 ⟨rfl, n7, rfl⟩
          rw [decide_eq_true rfl]
          have HA8 := Aside0.mk (HA7.out.drewN n7)
          have HB8 := Aside0.mk (pw_below_drewN HB7.out n7)
          generalize w6.drewN n7 = w8 at HA8 HB8 ⊢
          clear HA7 HB7
          have HA9 : Aside0 (Has W.heap.size w8 [heapT pa s, heapT pc s]) := ⟨HA8.out.tail.tail.tail⟩
          clear HA8
          go_wp2_with fail
          refine (all_calls HA9.out).mono ?_
          rintro e w9 ⟨v3, rfl, hr, hb⟩
          have HA10 := Aside0.mk (HA9.out.row hb hr)
          have HB10 := Aside0.mk (HB8.out.trans (hb.mono HA9.out.size))
          clear hr hb HA9 HB8
          go_wp2_with fail
          refine (all_calls HA10.out.third).mono ?_
          rintro e w10 ⟨v4, rfl, hr, hb⟩
          have HA11 := Aside0.mk (HA10.out.third.row hb hr)
          have HB11 := Aside0.mk (HB10.out.trans (hb.mono HA10.out.size))
          clear hr hb HA10 HB10
          go_wp2_with fail
          refine (same_calls (s := s) (t := s) HA11.out (by simp) (by simp) hs3).mono ?_
          rintro e w11 ⟨rfl, n11, rfl⟩
          rw [decide_eq_true rfl]
          have HL := Aside0.mk (len_calls (HA11.out.drewN n11).tail.third)
          have HB12 := Aside0.mk (pw_below_drewN HB11.out n11)
          generalize w10.drewN n11 = w12 at HL HB12 ⊢
          rw [hlen] at HL
          clear HA11 HB11
          go_wp2_with fail
          refine HL.out.mono ?_
          rintro e w13 ⟨rfl, rfl⟩
          have d10 : ((l0.length : Int) == (l0.length : Int)) = true := by simp
          go_wp2_with fail
          go_ret
          exact ⟨rfl, HB12.out⟩
end Go.Proofs.Ytigdpkofceghlaa.Hp
