/- A ring of samples: Push: walked. No law is proved here. -/
import Derived.Test.YtlhlaadnifkdhaaRingA
namespace Go.Proofs.Ytlhlaadnifkdhaa.Sr
open Go.RowKit Go.Proofs.YtlhlaadnifkdhaaW.PrintWords Go.Proofs.YtlhlaadnifkdhaaW.PrintLast Go.Proofs.YtlhlaadnifkdhaaW.PrintMore Go.Proofs.Ytlhlaadnifkdhaa.Q Go.Proofs.Ytlhlaadnifkdhaa.Own
set_option linter.unusedVariables false
set_option linter.unusedSimpArgs false
attribute [local go_sem ↓] Go.wp_at_zero Go.wp_at_succ

def badX (x : SM) : Prop := x.f0 < 0 ∨ x.f1 < -4611686018427387903 ∨ 4611686018427387903 < x.f1
instance (x : SM) : Decidable (badX x) := inferInstanceAs (Decidable (_ ∨ _ ∨ _))
def lateB (xs : List SM) (x : SM) : Bool := match xs.getLast? with | some y => decide (x.f0 < y.f0) | none => false
/-- What a push is answered, and what it leaves. -/
def pushE (xs : List SM) (x : SM) : Int := if badX x then 2 else if lateB xs x = true then 160 else if xs.length = 32 then 4 else 0
def pushL (xs : List SM) (x : SM) : List SM := if pushE xs x = 0 then xs ++ [x] else xs
theorem set_other {cs : Array Value} {i j : Nat} {v : Value} (h : i ≠ j) : (cs.setIfInBounds i v)[j]? = cs[j]? := by rw [Array.getElem?_setIfInBounds, if_neg h]
theorem set_same {cs : Array Value} {i : Nat} {v : Value} (h : i < cs.size) : (cs.setIfInBounds i v)[i]? = some v := by rw [Array.getElem?_setIfInBounds, if_pos rfl, if_pos h]
theorem RingIs.push {cs : Array Value} {f : Nat} {xs : List SM} (h : RingIs cs f xs) (hn : xs.length < 32) (x : SM) :
    RingIs (((cs.setIfInBounds ((f + xs.length) % 32 * 2) (.int .i64 x.f0)).setIfInBounds ((f + xs.length) % 32 * 2 + 1) (.int .i64 x.f1)).setIfInBounds 65 (.int .i64 ((xs.length + 1 : Nat) : Int))) f (xs ++ [x]) := by
  have hs := h.size
  have hf := h.lt
  have hk : (f + xs.length) % 32 < 32 := Nat.mod_lt _ (by decide)
  refine ⟨by simp [hs], ?_, ?_, ?_, hf, by rw [List.length_append]; show xs.length + 1 ≤ 32; omega, fun j hj => ?_⟩
  · rw [set_other (by omega), set_other (by omega), set_other (by omega)]
    exact h.first
  · rw [set_same (by simp [hs]), List.length_append]
    rfl
  · rw [set_other (by omega), set_other (by omega), set_other (by omega)]
    exact h.made
  · have hj' : j < xs.length + 1 := by rw [List.length_append] at hj; exact hj
    have hkj : (f + j) % 32 < 32 := Nat.mod_lt _ (by decide)
    by_cases e : j = xs.length
    · subst e
      have e2 : (xs ++ [x])[xs.length] = x := by simp
      rw [e2]
      constructor
      · rw [set_other (by omega), set_other (by omega), set_same (by rw [hs]; omega)]
      · rw [set_other (by omega), set_same (by simp [hs]; omega)]
    · have hne : (f + j) % 32 ≠ (f + xs.length) % 32 := by omega
      obtain ⟨q1, q2⟩ := h.el j (by omega)
      rw [List.getElem_append_left (by omega)]
      constructor
      · rw [set_other (by omega), set_other (by omega), set_other (by omega)]
        exact q1
      · rw [set_other (by omega), set_other (by omega), set_other (by omega)]
        exact q2
theorem last_some {xs : List SM} (h : 0 < xs.length) : xs.getLast? = some (xs[xs.length - 1]'(by omega)) := by
  rw [List.getLast?_eq_getElem?, List.getElem?_eq_getElem (by omega)]
abbrev xT (b : Nat) (x : SM) : Th := boxT b #[.int .i64 x.f0, .int .i64 x.f1] 26
set_option maxHeartbeats 4000000 in
set_option maxRecDepth 100000 in
theorem rpush_calls {B : Nat} {w : World} {b : Nat} {xs : List SM} {Ts : List Th} (h : Has B w (ringT b xs :: Ts)) (x : SM) :
    Calls Try.prog 28 #[ptr b, .agg #[.int .i64 x.f0, .int .i64 x.f1]] w fun e w' => e = .returned (.int .i64 (pushE xs x)) ∧ Has B w' (ringT b (pushL xs x) :: Ts) ∧ Below B w w' := by
  have hu26 := Try.underlying26
  obtain ⟨cs, f, hA, hr⟩ := ring_open h
  obtain ⟨x0, x1⟩ := x
  have hA1 : Has B (w.alloc (.cells #[.int .i64 x0, .int .i64 x1] 26)) (boxR b cs :: boxT w.heap.size #[.int .i64 x0, .int .i64 x1] 26 :: Ts) := (hA.box #[.int .i64 x0, .int .i64 x1] 26).swap
  have HB1 : Aside0 (Below B w (w.alloc (.cells #[.int .i64 x0, .int .i64 x1] 26))) := ⟨(Below.refl B w).alloc h.size _⟩
  have HA1 := Aside0.mk hA1
  have HRI := Aside0.mk hr
  have HN := Aside0.mk (rnone_calls hA1 (List.mem_cons_self ..) hr)
  clear h hA hA1 hr
  dsimp only
  by_cases hb : badX ⟨x0, x1⟩
  · have e0 : pushE xs ⟨x0, x1⟩ = 2 := if_pos hb
    have e1 : pushL xs ⟨x0, x1⟩ = xs := by unfold pushL; rw [e0, if_neg (by decide)]
    rw [e0, e1]
    have HX : Aside0 (badX ⟨x0, x1⟩) := ⟨hb⟩
    clear hb e0 e1
    go_enter Try.func28, Try.ntmps28
    go_wp2_with fail
    refine HN.out.mono ?_
    rintro e w1 ⟨rfl, rfl⟩
    by_cases h0 : x0 < 0
    · have d0 : decide (x0 < 0) = true := decide_eq_true h0
      go_wp2_with fail
      go_ret
      exact ⟨rfl, ring_shut HA1.out.swap.tail HRI.out, HB1.out⟩
    · have d0 : decide (x0 < 0) = false := decide_eq_false h0
      by_cases h1 : x1 < -4611686018427387903
      · have d1 : decide (x1 < -4611686018427387903) = true := decide_eq_true h1
        go_wp2_with fail
        go_ret
        exact ⟨rfl, ring_shut HA1.out.swap.tail HRI.out, HB1.out⟩
      · have d1 : decide (x1 < -4611686018427387903) = false := decide_eq_false h1
        have h2 : 4611686018427387903 < x1 := by
          rcases HX.out with q | q | q
          · exact absurd q h0
          · exact absurd q h1
          · exact q
        have d2 : decide (x1 > 4611686018427387903) = true := decide_eq_true h2
        go_wp2_with fail
        go_ret
        exact ⟨rfl, ring_shut HA1.out.swap.tail HRI.out, HB1.out⟩
  have e0 : pushE xs ⟨x0, x1⟩ = if lateB xs ⟨x0, x1⟩ = true then 160 else if xs.length = 32 then 4 else 0 := if_neg hb
  have h0 : ¬ x0 < 0 := fun q => hb (.inl q)
  have h1 : ¬ x1 < -4611686018427387903 := fun q => hb (.inr (.inl q))
  have h2 : ¬ 4611686018427387903 < x1 := fun q => hb (.inr (.inr q))
  have d0 : decide (x0 < 0) = false := decide_eq_false h0
  have d1 : decide (x1 < -4611686018427387903) = false := decide_eq_false h1
  have d2 : decide (x1 > 4611686018427387903) = false := decide_eq_false h2
  clear hb
  obtain ⟨c0, c1, c2, cf, cel, cex⟩ := ring_cells HA1.out (List.mem_cons_self ..) HRI.out
  obtain ⟨bx, -, -, -⟩ := HA1.out.box_cell (b := w.heap.size) (cs := #[.int .i64 x0, .int .i64 x1]) (t := 26) (by simp)
  have x0c : (w.alloc (.cells #[.int .i64 x0, .int .i64 x1] 26)).cell? ⟨w.heap.size, 0, none⟩ = some (.int .i64 x0) := bx 0
  have x1c : (w.alloc (.cells #[.int .i64 x0, .int .i64 x1] 26)).cell? ⟨w.heap.size, 1, none⟩ = some (.int .i64 x1) := bx 1
  have hle := HRI.out.le
  clear bx cf cex c0 c2
  have HLE : Aside0 (xs.length ≤ 32) := ⟨hle⟩
  have fin4 : lateB xs ⟨x0, x1⟩ = false → xs.length = 32 → pushE xs ⟨x0, x1⟩ = 4 ∧ pushL xs ⟨x0, x1⟩ = xs := fun q1 q2 => by
    have e : pushE xs ⟨x0, x1⟩ = 4 := by rw [e0, q1, if_neg (by decide), if_pos q2]
    exact ⟨e, by unfold pushL; rw [e, if_neg (by decide)]⟩
  have fin1 : lateB xs ⟨x0, x1⟩ = true → pushE xs ⟨x0, x1⟩ = 160 ∧ pushL xs ⟨x0, x1⟩ = xs := fun q1 => by
    have e : pushE xs ⟨x0, x1⟩ = 160 := by rw [e0, q1, if_pos rfl]
    exact ⟨e, by unfold pushL; rw [e, if_neg (by decide)]⟩
  have fin0 : lateB xs ⟨x0, x1⟩ = false → ¬ xs.length = 32 → pushE xs ⟨x0, x1⟩ = 0 ∧ pushL xs ⟨x0, x1⟩ = xs ++ [⟨x0, x1⟩] := fun q1 q2 => by
    have e : pushE xs ⟨x0, x1⟩ = 0 := by rw [e0, q1, if_neg (by decide), if_neg q2]
    exact ⟨e, by unfold pushL; rw [e, if_pos rfl]⟩
  have F4 := Aside0.mk fin4
  have F1 := Aside0.mk fin1
  have F0 := Aside0.mk fin0
  clear fin4 fin1 fin0 e0
  generalize hPE : pushE xs ⟨x0, x1⟩ = pe at F4 F1 F0 ⊢
  generalize hPL : pushL xs ⟨x0, x1⟩ = pl at F4 F1 F0 ⊢
  generalize hLB : lateB xs ⟨x0, x1⟩ = lb at F4 F1 F0
  have HLB := Aside0.mk hLB
  clear hPE hPL hLB
  generalize hbx : w.heap.size = bx at HA1 x0c x1c
  go_enter Try.func28, Try.ntmps28
  go_wp2_with fail
  refine HN.out.mono ?_
  rintro e w1 ⟨rfl, rfl⟩
  clear hbx HN
  generalize w.alloc (.cells #[.int .i64 x0, .int .i64 x1] 26) = w1 at HA1 HB1 c1 cel x0c x1c ⊢
  rcases Nat.eq_zero_or_pos xs.length with hz | hp
  · have HLB0 : Aside0 (lb = false) := ⟨by rw [← HLB.out, List.eq_nil_of_length_eq_zero hz]; rfl⟩
    have c1 : w1.cell? ⟨b, 65, none⟩ = some (.int .i64 0) := by rw [hz] at c1; exact c1
    clear hz cel
    go_wp2_with fail
    refine start_ (n := 21) (S := fun w' => w'.cell? ⟨b, 65, none⟩ = some (.int .i64 0)) (ds := []) #[false, false, false, false, false, false, false, false, false, false, false, false, false, false, false, false, false, false, false, false, false] (by kernel_rfl) rfl rfl (c1) (fun hHeld => ?_)
    refine pure_ (i := 0) (N := some 23) (v := ?_) (a' := ?_) #[true, false, false, false, false, false, false, false, false, false, false, false, false, false, false, false, false, false, false, false, false] rfl rfl (by kernel_rfl) (fun _ _ _ h => h) (Or.inl ⟨by rfl, ?_⟩) ?_ ?_
    rotate_left
    · intro w'
      go_simp
      with_reducible rfl
    rotate_left
    · simp only [Act.put, List.setIfInBounds_toArray, List.set_cons_zero, List.set_cons_succ, i64_w, i32_w]
      rfl
    refine pure_ (i := 1) (N := some 24) (v := ?_) (a' := ?_) #[true, true, false, false, false, false, false, false, false, false, false, false, false, false, false, false, false, false, false, false, false] rfl rfl (by kernel_rfl) (fun _ _ _ h => h) (Or.inl ⟨by rfl, ?_⟩) ?_ ?_
    rotate_left
    · intro w'
      go_simp
      with_reducible rfl
    rotate_left
    · simp only [Act.put, List.setIfInBounds_toArray, List.set_cons_zero, List.set_cons_succ, i64_w, i32_w]
      rfl
    refine pure_ (i := 2) (N := some 25) (v := ?_) (a' := ?_) #[true, true, true, false, false, false, false, false, false, false, false, false, false, false, false, false, false, false, false, false, false] rfl rfl (by kernel_rfl) (fun _ _ _ h => h) (Or.inl ⟨by rfl, ?_⟩) ?_ ?_
    rotate_left
    · intro w'
      go_simp
      with_reducible rfl
    rotate_left
    · simp only [Act.put, List.setIfInBounds_toArray, List.set_cons_zero, List.set_cons_succ, i64_w, i32_w]
      rfl
    refine take_ (i := 3) (N := some 26) (v := ?_) (a' := ?_) #[true, true, true, true, false, false, false, false, false, false, false, false, false, false, false, false, false, false, false, false, false] rfl rfl (by kernel_rfl) (fun _ _ _ h => h) (Or.inl ⟨by rfl, ?_⟩) hHeld ?_ ?_
    rotate_left
    · intro w' s0
      go_simp
      with_reducible rfl
    rotate_left
    · simp only [Act.put, List.setIfInBounds_toArray, List.set_cons_zero, List.set_cons_succ, i64_w, i32_w]
      rfl
    refine pure_ (i := 4) (N := some 27) (v := ?_) (a' := ?_) #[true, true, true, true, true, false, false, false, false, false, false, false, false, false, false, false, false, false, false, false, false] rfl rfl (by kernel_rfl) (fun _ _ _ h => h) (Or.inl ⟨by rfl, ?_⟩) ?_ ?_
    rotate_left
    · intro w'
      go_simp
      with_reducible rfl
    rotate_left
    · simp only [Act.put, List.setIfInBounds_toArray, List.set_cons_zero, List.set_cons_succ, i64_w, i32_w]
      rfl
    refine pure_ (i := 5) (N := some 28) (v := ?_) (a' := ?_) #[true, true, true, true, true, true, false, false, false, false, false, false, false, false, false, false, false, false, false, false, false] rfl rfl (by kernel_rfl) (fun _ _ _ h => h) (Or.inl ⟨by rfl, ?_⟩) ?_ ?_
    rotate_left
    · intro w'
      go_simp
      with_reducible rfl
    rotate_left
    · simp only [Act.put, List.setIfInBounds_toArray, List.set_cons_zero, List.set_cons_succ, i64_w, i32_w]
      rfl
    refine pure_ (i := 6) (N := some 29) (v := undef) (a' := ?_) #[true, true, true, true, true, true, true, false, false, false, false, false, false, false, false, false, false, false, false, false, false] rfl rfl (by kernel_rfl) (fun _ _ _ h => h) (Or.inr ⟨by rfl, rfl⟩) ?_ ?_
    rotate_left
    · simp only [Act.put, List.setIfInBounds_toArray, List.set_cons_zero, List.set_cons_succ, i64_w, i32_w]
      rfl
    refine pure_ (i := 7) (N := some 30) (v := undef) (a' := ?_) #[true, true, true, true, true, true, true, true, false, false, false, false, false, false, false, false, false, false, false, false, false] rfl rfl (by kernel_rfl) (fun _ _ _ h => h) (Or.inr ⟨by rfl, rfl⟩) ?_ ?_
    rotate_left
    · simp only [Act.put, List.setIfInBounds_toArray, List.set_cons_zero, List.set_cons_succ, i64_w, i32_w]
      rfl
    refine pure_ (i := 8) (N := some 31) (v := undef) (a' := ?_) #[true, true, true, true, true, true, true, true, true, false, false, false, false, false, false, false, false, false, false, false, false] rfl rfl (by kernel_rfl) (fun _ _ _ h => h) (Or.inr ⟨by rfl, rfl⟩) ?_ ?_
    rotate_left
    · simp only [Act.put, List.setIfInBounds_toArray, List.set_cons_zero, List.set_cons_succ, i64_w, i32_w]
      rfl
    refine pure_ (i := 9) (N := some 32) (v := undef) (a' := ?_) #[true, true, true, true, true, true, true, true, true, true, false, false, false, false, false, false, false, false, false, false, false] rfl rfl (by kernel_rfl) (fun _ _ _ h => h) (Or.inr ⟨by rfl, rfl⟩) ?_ ?_
    rotate_left
    · simp only [Act.put, List.setIfInBounds_toArray, List.set_cons_zero, List.set_cons_succ, i64_w, i32_w]
      rfl
    refine pure_ (i := 10) (N := some 33) (v := undef) (a' := ?_) #[true, true, true, true, true, true, true, true, true, true, true, false, false, false, false, false, false, false, false, false, false] rfl rfl (by kernel_rfl) (fun _ _ _ h => h) (Or.inr ⟨by rfl, rfl⟩) ?_ ?_
    rotate_left
    · simp only [Act.put, List.setIfInBounds_toArray, List.set_cons_zero, List.set_cons_succ, i64_w, i32_w]
      rfl
    refine pure_ (i := 11) (N := some 34) (v := undef) (a' := ?_) #[true, true, true, true, true, true, true, true, true, true, true, true, false, false, false, false, false, false, false, false, false] rfl rfl (by kernel_rfl) (fun _ _ _ h => h) (Or.inr ⟨by rfl, rfl⟩) ?_ ?_
    rotate_left
    · simp only [Act.put, List.setIfInBounds_toArray, List.set_cons_zero, List.set_cons_succ, i64_w, i32_w]
      rfl
    refine pure_ (i := 12) (N := some 35) (v := undef) (a' := ?_) #[true, true, true, true, true, true, true, true, true, true, true, true, true, false, false, false, false, false, false, false, false] rfl rfl (by kernel_rfl) (fun _ _ _ h => h) (Or.inr ⟨by rfl, rfl⟩) ?_ ?_
    rotate_left
    · simp only [Act.put, List.setIfInBounds_toArray, List.set_cons_zero, List.set_cons_succ, i64_w, i32_w]
      rfl
    refine pure_ (i := 13) (N := some 36) (v := undef) (a' := ?_) #[true, true, true, true, true, true, true, true, true, true, true, true, true, true, false, false, false, false, false, false, false] rfl rfl (by kernel_rfl) (fun _ _ _ h => h) (Or.inr ⟨by rfl, rfl⟩) ?_ ?_
    rotate_left
    · simp only [Act.put, List.setIfInBounds_toArray, List.set_cons_zero, List.set_cons_succ, i64_w, i32_w]
      rfl
    refine pure_ (i := 14) (N := some 37) (v := undef) (a' := ?_) #[true, true, true, true, true, true, true, true, true, true, true, true, true, true, true, false, false, false, false, false, false] rfl rfl (by kernel_rfl) (fun _ _ _ h => h) (Or.inr ⟨by rfl, rfl⟩) ?_ ?_
    rotate_left
    · simp only [Act.put, List.setIfInBounds_toArray, List.set_cons_zero, List.set_cons_succ, i64_w, i32_w]
      rfl
    refine pure_ (i := 15) (N := some 38) (v := undef) (a' := ?_) #[true, true, true, true, true, true, true, true, true, true, true, true, true, true, true, true, false, false, false, false, false] rfl rfl (by kernel_rfl) (fun _ _ _ h => h) (Or.inr ⟨by rfl, rfl⟩) ?_ ?_
    rotate_left
    · simp only [Act.put, List.setIfInBounds_toArray, List.set_cons_zero, List.set_cons_succ, i64_w, i32_w]
      rfl
    refine pure_ (i := 16) (N := some 39) (v := undef) (a' := ?_) #[true, true, true, true, true, true, true, true, true, true, true, true, true, true, true, true, true, false, false, false, false] rfl rfl (by kernel_rfl) (fun _ _ _ h => h) (Or.inr ⟨by rfl, rfl⟩) ?_ ?_
    rotate_left
    · simp only [Act.put, List.setIfInBounds_toArray, List.set_cons_zero, List.set_cons_succ, i64_w, i32_w]
      rfl
    refine pure_ (i := 17) (N := some 40) (v := undef) (a' := ?_) #[true, true, true, true, true, true, true, true, true, true, true, true, true, true, true, true, true, true, false, false, false] rfl rfl (by kernel_rfl) (fun _ _ _ h => h) (Or.inr ⟨by rfl, rfl⟩) ?_ ?_
    rotate_left
    · simp only [Act.put, List.setIfInBounds_toArray, List.set_cons_zero, List.set_cons_succ, i64_w, i32_w]
      rfl
    refine pure_ (i := 18) (N := some 41) (v := undef) (a' := ?_) #[true, true, true, true, true, true, true, true, true, true, true, true, true, true, true, true, true, true, true, false, false] rfl rfl (by kernel_rfl) (fun _ _ _ h => h) (Or.inr ⟨by rfl, rfl⟩) ?_ ?_
    rotate_left
    · simp only [Act.put, List.setIfInBounds_toArray, List.set_cons_zero, List.set_cons_succ, i64_w, i32_w]
      rfl
    refine pure_ (i := 19) (N := some 42) (v := ?_) (a' := ?_) #[true, true, true, true, true, true, true, true, true, true, true, true, true, true, true, true, true, true, true, true, false] rfl rfl (by kernel_rfl) (fun _ _ _ h => h) (Or.inl ⟨by rfl, ?_⟩) ?_ ?_
    rotate_left
    · intro w'
      go_simp
      with_reducible rfl
    rotate_left
    · simp only [Act.put, List.setIfInBounds_toArray, List.set_cons_zero, List.set_cons_succ, i64_w, i32_w]
      rfl
    refine pure_ (i := 20) (N := some 22) (v := ?_) (a' := ?_) #[true, true, true, true, true, true, true, true, true, true, true, true, true, true, true, true, true, true, true, true, true] rfl rfl (by kernel_rfl) (fun _ _ _ h => h) (Or.inl ⟨by rfl, ?_⟩) ?_ ?_
    rotate_left
    · intro w'
      go_simp
      with_reducible rfl
    rotate_left
    · simp only [Act.put, List.setIfInBounds_toArray, List.set_cons_zero, List.set_cons_succ, i64_w, i32_w]
      rfl
    refine done_ (by kernel_rfl) ?_

    have HA2 := Aside0.mk HA1.out.drew
    have HB2 := Aside0.mk (bl_drew HB1.out)
    clear c1 x0c x1c HA1 HB1
    generalize w1.drew = w2 at HA2 HB2 ⊢
    obtain ⟨-, c1, -, cf, -, cex⟩ := ring_cells HA2.out (List.mem_cons_self ..) HRI.out
    obtain ⟨bx2, -, -, -⟩ := HA2.out.box_cell (b := bx) (cs := #[.int .i64 x0, .int .i64 x1]) (t := 26) (by simp)
    have x0c : w2.cell? ⟨bx, 0, none⟩ = some (.int .i64 x0) := bx2 0
    have x1c : w2.cell? ⟨bx, 1, none⟩ = some (.int .i64 x1) := bx2 1
    clear bx2
    by_cases h32 : xs.length = 32
    · have d3 : ((xs.length : Int) == 32) = true := beq_iff_eq.2 (by omega)
      have H32 := Aside0.mk h32
      clear h32 cex cf
      go_wp2_with fail
      go_ret
      obtain ⟨rfl, rfl⟩ := F4.out HLB0.out H32.out
      exact ⟨rfl, ring_shut HA2.out.swap.tail HRI.out, HB2.out⟩
    have d3 : ((xs.length : Int) == 32) = false := beq_eq_false_iff_ne.2 (by omega)
    have d4 : ¬ (xs.length : Int) = 32 := by omega
    have HAT := Aside0.mk (rat_calls HA2.out.drew (List.mem_cons_self ..) HRI.out xs.length (by omega))
    have HPU := Aside0.mk (HRI.out.push (by omega) ⟨x0, x1⟩)
    have e5 : wrap64 ((xs.length : Int) + 1) = ((xs.length + 1 : Nat) : Int) := (w64 (x := (xs.length : Int) + 1) (by omega) (by omega)).trans (by omega)
    have hk : (f + xs.length) % 32 < 32 := Nat.mod_lt _ (by decide)
    have H32 := Aside0.mk h32
    dsimp only at HPU
    generalize (f + xs.length) % 32 = k at HAT HPU hk
    obtain ⟨hA3, hB3⟩ := HA2.out.box_set (k * 2) (.int .i64 x0)
    obtain ⟨hA4, hB4⟩ := hA3.box_set (k * 2 + 1) (.int .i64 x1)
    obtain ⟨u1, u2, -, -⟩ := HA2.out.box_cell (List.mem_cons_self ..)
    have s67 := HRI.out.size
    have p1 := (u1 (k * 2)).trans (Array.getElem?_eq_getElem (by omega))
    have p2 := (u1 (k * 2 + 1)).trans (Array.getElem?_eq_getElem (by omega))
    have z1 := u2 (k * 2)
    have z2 := u2 (k * 2 + 1)
    generalize cs[k * 2]'_ = v1 at p1
    generalize cs[k * 2 + 1]'_ = v2 at p2
    have HA4 := Aside0.mk hA4.drew.drew
    have HB4 := Aside0.mk (bl_drew (bl_drew ((HB2.out.trans hB3).trans hB4)))
    have HK := Aside0.mk hk
    clear hA3 hB3 hA4 hB4 u1 u2 s67 cf cex h32 hk
    go_wp2_with fail
    refine start_ (n := 9) (S := fun w' => w'.cell? ⟨b, 65, none⟩ = some (.int .i64 (xs.length : Int)) ∧ w'.cell? ⟨bx, 0, none⟩ = some (.int .i64 x0) ∧ w'.cell? ⟨bx, 1, none⟩ = some (.int .i64 x1)) (ds := [8]) #[false, false, false, false, false, false, false, false, false] (by kernel_rfl) rfl rfl ⟨c1, x0c, x1c⟩ (fun hHeld => ?_)
    refine pure_ (i := 0) (N := some 49) (v := ?_) (a' := ?_) #[true, false, false, false, false, false, false, false, false] rfl rfl (by kernel_rfl) (fun _ _ _ h => h) (Or.inl ⟨by rfl, ?_⟩) ?_ ?_
    rotate_left
    · intro w'
      go_simp
      with_reducible rfl
    rotate_left
    · simp only [Act.put, List.setIfInBounds_toArray, List.set_cons_zero, List.set_cons_succ, i64_w, i32_w]
      rfl
    refine pure_ (i := 1) (N := some 50) (v := ?_) (a' := ?_) #[true, true, false, false, false, false, false, false, false] rfl rfl (by kernel_rfl) (fun _ _ _ h => h) (Or.inl ⟨by rfl, ?_⟩) ?_ ?_
    rotate_left
    · intro w'
      go_simp
      with_reducible rfl
    rotate_left
    · simp only [Act.put, List.setIfInBounds_toArray, List.set_cons_zero, List.set_cons_succ, i64_w, i32_w]
      rfl
    refine pure_ (i := 2) (N := some 51) (v := ?_) (a' := ?_) #[true, true, true, false, false, false, false, false, false] rfl rfl (by kernel_rfl) (fun _ _ _ h => h) (Or.inl ⟨by rfl, ?_⟩) ?_ ?_
    rotate_left
    · intro w'
      go_simp
      with_reducible rfl
    rotate_left
    · simp only [Act.put, List.setIfInBounds_toArray, List.set_cons_zero, List.set_cons_succ, i64_w, i32_w]
      rfl
    refine pure_ (i := 3) (N := some 52) (v := ?_) (a' := ?_) #[true, true, true, true, false, false, false, false, false] rfl rfl (by kernel_rfl) (fun _ _ _ h => h) (Or.inl ⟨by rfl, ?_⟩) ?_ ?_
    rotate_left
    · intro w'
      go_simp
      with_reducible rfl
    rotate_left
    · simp only [Act.put, List.setIfInBounds_toArray, List.set_cons_zero, List.set_cons_succ, i64_w, i32_w]
      rfl
    refine take_ (i := 4) (N := some 53) (v := ?_) (a' := ?_) #[true, true, true, true, true, false, false, false, false] rfl rfl (by kernel_rfl) (fun _ _ _ h => h) (Or.inl ⟨by rfl, ?_⟩) hHeld ?_ ?_
    rotate_left
    · rintro w' ⟨s0, s1, s2⟩
      go_simp
      with_reducible rfl
    rotate_left
    · simp only [Act.put, List.setIfInBounds_toArray, List.set_cons_zero, List.set_cons_succ, i64_w, i32_w]
      rfl
    refine take_ (i := 6) (N := some 55) (v := ?_) (a' := ?_) #[true, true, true, true, true, false, true, false, false] rfl rfl (by kernel_rfl) (fun _ _ _ h => h) (Or.inl ⟨by rfl, ?_⟩) hHeld ?_ ?_
    rotate_left
    · rintro w' ⟨s0, s1, s2⟩
      go_simp
      with_reducible rfl
    rotate_left
    · simp only [Act.put, List.setIfInBounds_toArray, List.set_cons_zero, List.set_cons_succ, i64_w, i32_w]
      rfl
    refine one_ (i := 5) (N := some 54) #[true, true, true, true, true, true, true, false, false] rfl rfl (by kernel_rfl) (by decide) (fun K hK => ?_)
    refine goes_ Try.func51 (by kernel_rfl) rfl #[ptr b, .int .i64 (xs.length : Int)] (by rfl) rfl rfl (by simp only [List.map_toArray, List.map_cons, List.map_nil]; rfl) ?_
    with_reducible refine (HAT.out).mono ?_
    rintro e w5 ⟨rfl, rfl⟩
    refine ⟨_, rfl, ?_⟩
    refine hK.out _ _ ⟨c1, x0c, x1c⟩ (fun hHeld => ?_)
    clear hK K
    refine norm_ (a' := ?_) ?_ ?_
    rotate_left
    · show Act.put _ (some 54) _ = _
      simp only [Act.put, List.setIfInBounds_toArray, List.set_cons_zero, List.set_cons_succ, i64_w, i32_w]
      rfl
    refine pure_ (i := 7) (N := some 56) (v := ?_) (a' := ?_) #[true, true, true, true, true, true, true, true, false] rfl rfl (by kernel_rfl) (fun _ _ _ h => h) (Or.inl ⟨by rfl, ?_⟩) ?_ ?_
    rotate_left
    · intro w'
      go_simp
      with_reducible rfl
    rotate_left
    · simp only [Act.put, List.setIfInBounds_toArray, List.set_cons_zero, List.set_cons_succ, i64_w, i32_w]
      rfl
    refine last_ (i := 8) (N := none) #[true, true, true, true, true, true, true, true, true] rfl rfl (by kernel_rfl) (by decide) (fun K hK => ?_)
    refine skip_ (w1 := ?_) (by rfl) rfl ?_ ?_
    rotate_left
    · go_simp
      rfl
    refine hK.out _ _ ?_
    clear hK K
    refine done_ (by kernel_rfl) ?_

    generalize ((w2.setCell ⟨b, k * 2, none⟩ (.int .i64 x0)).setCell ⟨b, k * 2 + 1, none⟩ (.int .i64 x1)).drew.drew = w5 at HA4 HB4 ⊢
    clear c1 x0c x1c p1 p2 z1 z2 HAT HA2 HB2
    obtain ⟨u1, u2, -, -⟩ := HA4.out.box_cell (List.mem_cons_self ..)
    have p3 : w5.cell? ⟨b, 65, none⟩ = some (.int .i64 (xs.length : Int)) := by
      have hk := HK.out
      rw [u1, set_other (by omega), set_other (by omega)]
      exact HRI.out.n
    have z3 := u2 65
    obtain ⟨hA5, hB5⟩ := HA4.out.box_set 65 (.int .i64 ((xs.length + 1 : Nat) : Int))
    have HA5 := Aside0.mk hA5
    have HB5 := Aside0.mk (HB4.out.trans hB5)
    clear u1 u2 hA5 hB5 HA4 HB4
    go_wp2_with fail
    go_ret
    obtain ⟨rfl, rfl⟩ := F0.out HLB0.out H32.out
    exact ⟨rfl, ring_shut HA5.out.swap.tail HPU.out, HB5.out⟩
  · have hy := last_some hp
    obtain ⟨cy, -⟩ := cel (xs.length - 1) (by omega)
    have hlb : lb = decide (x0 < (xs[xs.length - 1]'(by omega)).f0) := by
      rw [← HLB.out]
      unfold lateB
      rw [hy]
    have HAT := Aside0.mk (rat_calls HA1.out.drew (List.mem_cons_self ..) HRI.out (xs.length - 1) (by omega))
    have e4 : wrap64 ((xs.length : Int) - 1) = ((xs.length - 1 : Nat) : Int) := (w64 (x := (xs.length : Int) - 1) (by omega) (by omega)).trans (by omega)
    have d5 : decide ((xs.length : Int) > 0) = true := decide_eq_true (by omega)
    have d6 : (0 : Int) < (xs.length : Int) := by omega
    generalize (xs[xs.length - 1]'(by omega)).f0 = y at cy hlb
    generalize xs.length - 1 = m at cy HAT e4
    rw [← e4] at HAT
    cases lb
    · have hlb2 : decide (x0 < y) = false := hlb.symm
      have hlb3 : ¬ x0 < y := of_decide_eq_false hlb2
      have HLB0 : Aside0 (false = false) := ⟨rfl⟩
      clear hy cel hlb
      go_wp2_with fail
      refine start_ (n := 21) (S := fun w' => w'.cell? ⟨b, 65, none⟩ = some (.int .i64 (xs.length : Int)) ∧ w'.cell? ⟨bx, 0, none⟩ = some (.int .i64 x0) ∧ w'.cell? ⟨b, (f + m) % 32 * 2, none⟩ = some (.int .i64 y)) (ds := []) #[false, false, false, false, false, false, false, false, false, false, false, false, false, false, false, false, false, false, false, false, false] (by kernel_rfl) rfl rfl ⟨c1, x0c, cy⟩ (fun hHeld => ?_)
      refine pure_ (i := 0) (N := some 23) (v := ?_) (a' := ?_) #[true, false, false, false, false, false, false, false, false, false, false, false, false, false, false, false, false, false, false, false, false] rfl rfl (by kernel_rfl) (fun _ _ _ h => h) (Or.inl ⟨by rfl, ?_⟩) ?_ ?_
      rotate_left
      · intro w'
        go_simp
        with_reducible rfl
      rotate_left
      · simp only [Act.put, List.setIfInBounds_toArray, List.set_cons_zero, List.set_cons_succ, i64_w, i32_w]
        rfl
      refine pure_ (i := 1) (N := some 24) (v := ?_) (a' := ?_) #[true, true, false, false, false, false, false, false, false, false, false, false, false, false, false, false, false, false, false, false, false] rfl rfl (by kernel_rfl) (fun _ _ _ h => h) (Or.inl ⟨by rfl, ?_⟩) ?_ ?_
      rotate_left
      · intro w'
        go_simp
        with_reducible rfl
      rotate_left
      · simp only [Act.put, List.setIfInBounds_toArray, List.set_cons_zero, List.set_cons_succ, i64_w, i32_w]
        rfl
      refine pure_ (i := 2) (N := some 25) (v := ?_) (a' := ?_) #[true, true, true, false, false, false, false, false, false, false, false, false, false, false, false, false, false, false, false, false, false] rfl rfl (by kernel_rfl) (fun _ _ _ h => h) (Or.inl ⟨by rfl, ?_⟩) ?_ ?_
      rotate_left
      · intro w'
        go_simp
        with_reducible rfl
      rotate_left
      · simp only [Act.put, List.setIfInBounds_toArray, List.set_cons_zero, List.set_cons_succ, i64_w, i32_w]
        rfl
      refine take_ (i := 3) (N := some 26) (v := ?_) (a' := ?_) #[true, true, true, true, false, false, false, false, false, false, false, false, false, false, false, false, false, false, false, false, false] rfl rfl (by kernel_rfl) (fun _ _ _ h => h) (Or.inl ⟨by rfl, ?_⟩) hHeld ?_ ?_
      rotate_left
      · rintro w' ⟨s0, s1, s2⟩
        go_simp
        with_reducible rfl
      rotate_left
      · simp only [Act.put, List.setIfInBounds_toArray, List.set_cons_zero, List.set_cons_succ, i64_w, i32_w]
        rfl
      refine pure_ (i := 4) (N := some 27) (v := ?_) (a' := ?_) #[true, true, true, true, true, false, false, false, false, false, false, false, false, false, false, false, false, false, false, false, false] rfl rfl (by kernel_rfl) (fun _ _ _ h => h) (Or.inl ⟨by rfl, ?_⟩) ?_ ?_
      rotate_left
      · intro w'
        go_simp
        with_reducible rfl
      rotate_left
      · simp only [Act.put, List.setIfInBounds_toArray, List.set_cons_zero, List.set_cons_succ, i64_w, i32_w]
        rfl
      refine pure_ (i := 5) (N := some 28) (v := ?_) (a' := ?_) #[true, true, true, true, true, true, false, false, false, false, false, false, false, false, false, false, false, false, false, false, false] rfl rfl (by kernel_rfl) (fun _ _ _ h => h) (Or.inl ⟨by rfl, ?_⟩) ?_ ?_
      rotate_left
      · intro w'
        go_simp
        with_reducible rfl
      rotate_left
      · simp only [Act.put, List.setIfInBounds_toArray, List.set_cons_zero, List.set_cons_succ, i64_w, i32_w]
        rfl
      refine pure_ (i := 6) (N := some 29) (v := ?_) (a' := ?_) #[true, true, true, true, true, true, true, false, false, false, false, false, false, false, false, false, false, false, false, false, false] rfl rfl (by kernel_rfl) (fun _ _ _ h => h) (Or.inl ⟨by rfl, ?_⟩) ?_ ?_
      rotate_left
      · intro w'
        go_simp
        with_reducible rfl
      rotate_left
      · simp only [Act.put, List.setIfInBounds_toArray, List.set_cons_zero, List.set_cons_succ, i64_w, i32_w]
        rfl
      refine pure_ (i := 8) (N := some 31) (v := ?_) (a' := ?_) #[true, true, true, true, true, true, true, false, true, false, false, false, false, false, false, false, false, false, false, false, false] rfl rfl (by kernel_rfl) (fun _ _ _ h => h) (Or.inl ⟨by rfl, ?_⟩) ?_ ?_
      rotate_left
      · intro w'
        go_simp
        with_reducible rfl
      rotate_left
      · simp only [Act.put, List.setIfInBounds_toArray, List.set_cons_zero, List.set_cons_succ, i64_w, i32_w]
        rfl
      refine pure_ (i := 9) (N := some 32) (v := ?_) (a' := ?_) #[true, true, true, true, true, true, true, false, true, true, false, false, false, false, false, false, false, false, false, false, false] rfl rfl (by kernel_rfl) (fun _ _ _ h => h) (Or.inl ⟨by rfl, ?_⟩) ?_ ?_
      rotate_left
      · intro w'
        go_simp
        with_reducible rfl
      rotate_left
      · simp only [Act.put, List.setIfInBounds_toArray, List.set_cons_zero, List.set_cons_succ, i64_w, i32_w]
        rfl
      refine pure_ (i := 10) (N := some 33) (v := ?_) (a' := ?_) #[true, true, true, true, true, true, true, false, true, true, true, false, false, false, false, false, false, false, false, false, false] rfl rfl (by kernel_rfl) (fun _ _ _ h => h) (Or.inl ⟨by rfl, ?_⟩) ?_ ?_
      rotate_left
      · intro w'
        go_simp
        with_reducible rfl
      rotate_left
      · simp only [Act.put, List.setIfInBounds_toArray, List.set_cons_zero, List.set_cons_succ, i64_w, i32_w]
        rfl
      refine pure_ (i := 11) (N := some 34) (v := ?_) (a' := ?_) #[true, true, true, true, true, true, true, false, true, true, true, true, false, false, false, false, false, false, false, false, false] rfl rfl (by kernel_rfl) (fun _ _ _ h => h) (Or.inl ⟨by rfl, ?_⟩) ?_ ?_
      rotate_left
      · intro w'
        go_simp
        with_reducible rfl
      rotate_left
      · simp only [Act.put, List.setIfInBounds_toArray, List.set_cons_zero, List.set_cons_succ, i64_w, i32_w]
        rfl
      refine take_ (i := 7) (N := some 30) (v := ?_) (a' := ?_) #[true, true, true, true, true, true, true, true, true, true, true, true, false, false, false, false, false, false, false, false, false] rfl rfl (by kernel_rfl) (fun _ _ _ h => h) (Or.inl ⟨by rfl, ?_⟩) hHeld ?_ ?_
      rotate_left
      · rintro w' ⟨s0, s1, s2⟩
        go_simp
        with_reducible rfl
      rotate_left
      · simp only [Act.put, List.setIfInBounds_toArray, List.set_cons_zero, List.set_cons_succ, i64_w, i32_w]
        rfl
      refine take_ (i := 12) (N := some 35) (v := ?_) (a' := ?_) #[true, true, true, true, true, true, true, true, true, true, true, true, true, false, false, false, false, false, false, false, false] rfl rfl (by kernel_rfl) (fun _ _ _ h => h) (Or.inl ⟨by rfl, ?_⟩) hHeld ?_ ?_
      rotate_left
      · rintro w' ⟨s0, s1, s2⟩
        go_simp
        with_reducible rfl
      rotate_left
      · simp only [Act.put, List.setIfInBounds_toArray, List.set_cons_zero, List.set_cons_succ, i64_w, i32_w]
        rfl
      refine pure_ (i := 13) (N := some 36) (v := ?_) (a' := ?_) #[true, true, true, true, true, true, true, true, true, true, true, true, true, true, false, false, false, false, false, false, false] rfl rfl (by kernel_rfl) (fun _ _ _ h => h) (Or.inl ⟨by rfl, ?_⟩) ?_ ?_
      rotate_left
      · intro w'
        go_simp
        with_reducible rfl
      rotate_left
      · simp only [Act.put, List.setIfInBounds_toArray, List.set_cons_zero, List.set_cons_succ, i64_w, i32_w]
        rfl
      refine one_ (i := 14) (N := some 37) #[true, true, true, true, true, true, true, true, true, true, true, true, true, true, true, false, false, false, false, false, false] rfl rfl (by kernel_rfl) (by decide) (fun K hK => ?_)
      refine goes_ Try.func51 (by kernel_rfl) rfl #[ptr b, .int .i64 (wrap64 ((xs.length : Int) - 1))] (by rfl) rfl rfl (by simp only [List.map_toArray, List.map_cons, List.map_nil]; rfl) ?_
      with_reducible refine (HAT.out).mono ?_
      rintro e w5 ⟨rfl, rfl⟩
      refine ⟨_, rfl, ?_⟩
      refine hK.out _ _ ⟨c1, x0c, cy⟩ (fun hHeld => ?_)
      clear hK K
      refine norm_ (a' := ?_) ?_ ?_
      rotate_left
      · show Act.put _ (some 37) _ = _
        simp only [Act.put, List.setIfInBounds_toArray, List.set_cons_zero, List.set_cons_succ, i64_w, i32_w]
        rfl
      refine pure_ (i := 15) (N := some 38) (v := ?_) (a' := ?_) #[true, true, true, true, true, true, true, true, true, true, true, true, true, true, true, true, false, false, false, false, false] rfl rfl (by kernel_rfl) (fun _ _ _ h => h) (Or.inl ⟨by rfl, ?_⟩) ?_ ?_
      rotate_left
      · intro w'
        go_simp
        with_reducible rfl
      rotate_left
      · simp only [Act.put, List.setIfInBounds_toArray, List.set_cons_zero, List.set_cons_succ, i64_w, i32_w]
        rfl
      refine pure_ (i := 16) (N := some 39) (v := ?_) (a' := ?_) #[true, true, true, true, true, true, true, true, true, true, true, true, true, true, true, true, true, false, false, false, false] rfl rfl (by kernel_rfl) (fun _ _ _ h => h) (Or.inl ⟨by rfl, ?_⟩) ?_ ?_
      rotate_left
      · intro w'
        go_simp
        with_reducible rfl
      rotate_left
      · simp only [Act.put, List.setIfInBounds_toArray, List.set_cons_zero, List.set_cons_succ, i64_w, i32_w]
        rfl
      refine take_ (i := 17) (N := some 40) (v := ?_) (a' := ?_) #[true, true, true, true, true, true, true, true, true, true, true, true, true, true, true, true, true, true, false, false, false] rfl rfl (by kernel_rfl) (fun _ _ _ h => h) (Or.inl ⟨by rfl, ?_⟩) hHeld ?_ ?_
      rotate_left
      · rintro w' ⟨s0, s1, s2⟩
        go_simp
        with_reducible rfl
      rotate_left
      · simp only [Act.put, List.setIfInBounds_toArray, List.set_cons_zero, List.set_cons_succ, i64_w, i32_w]
        rfl
      refine pure_ (i := 18) (N := some 41) (v := ?_) (a' := ?_) #[true, true, true, true, true, true, true, true, true, true, true, true, true, true, true, true, true, true, true, false, false] rfl rfl (by kernel_rfl) (fun _ _ _ h => h) (Or.inl ⟨by rfl, ?_⟩) ?_ ?_
      rotate_left
      · intro w'
        go_simp
        with_reducible rfl
      rotate_left
      · simp only [Act.put, List.setIfInBounds_toArray, List.set_cons_zero, List.set_cons_succ, i64_w, i32_w]
        rfl
      refine pure_ (i := 19) (N := some 42) (v := ?_) (a' := ?_) #[true, true, true, true, true, true, true, true, true, true, true, true, true, true, true, true, true, true, true, true, false] rfl rfl (by kernel_rfl) (fun _ _ _ h => h) (Or.inl ⟨by rfl, ?_⟩) ?_ ?_
      rotate_left
      · intro w'
        go_simp
        with_reducible rfl
      rotate_left
      · simp only [Act.put, List.setIfInBounds_toArray, List.set_cons_zero, List.set_cons_succ, i64_w, i32_w]
        rfl
      refine pure_ (i := 20) (N := some 22) (v := ?_) (a' := ?_) #[true, true, true, true, true, true, true, true, true, true, true, true, true, true, true, true, true, true, true, true, true] rfl rfl (by kernel_rfl) (fun _ _ _ h => h) (Or.inl ⟨by rfl, ?_⟩) ?_ ?_
      rotate_left
      · intro w'
        go_simp
        with_reducible rfl
      rotate_left
      · simp only [Act.put, List.setIfInBounds_toArray, List.set_cons_zero, List.set_cons_succ, i64_w, i32_w]
        rfl
      refine done_ (by kernel_rfl) ?_

      have HA2 := Aside0.mk HA1.out.drew.drew
      have HB2 := Aside0.mk (bl_drew (bl_drew HB1.out))
      clear c1 x0c x1c HA1 HB1 cy HAT e4 hlb2 hlb3 d5 d6
      generalize w1.drew.drew = w2 at HA2 HB2 ⊢
      obtain ⟨-, c1, -, cf, -, cex⟩ := ring_cells HA2.out (List.mem_cons_self ..) HRI.out
      obtain ⟨bx2, -, -, -⟩ := HA2.out.box_cell (b := bx) (cs := #[.int .i64 x0, .int .i64 x1]) (t := 26) (by simp)
      have x0c : w2.cell? ⟨bx, 0, none⟩ = some (.int .i64 x0) := bx2 0
      have x1c : w2.cell? ⟨bx, 1, none⟩ = some (.int .i64 x1) := bx2 1
      clear bx2
      by_cases h32 : xs.length = 32
      · have d3 : ((xs.length : Int) == 32) = true := beq_iff_eq.2 (by omega)
        have H32 := Aside0.mk h32
        clear h32 cex cf
        go_wp2_with fail
        go_ret
        obtain ⟨rfl, rfl⟩ := F4.out HLB0.out H32.out
        exact ⟨rfl, ring_shut HA2.out.swap.tail HRI.out, HB2.out⟩
      have d3 : ((xs.length : Int) == 32) = false := beq_eq_false_iff_ne.2 (by omega)
      have d4 : ¬ (xs.length : Int) = 32 := by omega
      have HAT := Aside0.mk (rat_calls HA2.out.drew (List.mem_cons_self ..) HRI.out xs.length (by omega))
      have HPU := Aside0.mk (HRI.out.push (by omega) ⟨x0, x1⟩)
      have e5 : wrap64 ((xs.length : Int) + 1) = ((xs.length + 1 : Nat) : Int) := (w64 (x := (xs.length : Int) + 1) (by omega) (by omega)).trans (by omega)
      have hk : (f + xs.length) % 32 < 32 := Nat.mod_lt _ (by decide)
      have H32 := Aside0.mk h32
      dsimp only at HPU
      generalize (f + xs.length) % 32 = k at HAT HPU hk
      obtain ⟨hA3, hB3⟩ := HA2.out.box_set (k * 2) (.int .i64 x0)
      obtain ⟨hA4, hB4⟩ := hA3.box_set (k * 2 + 1) (.int .i64 x1)
      obtain ⟨u1, u2, -, -⟩ := HA2.out.box_cell (List.mem_cons_self ..)
      have s67 := HRI.out.size
      have p1 := (u1 (k * 2)).trans (Array.getElem?_eq_getElem (by omega))
      have p2 := (u1 (k * 2 + 1)).trans (Array.getElem?_eq_getElem (by omega))
      have z1 := u2 (k * 2)
      have z2 := u2 (k * 2 + 1)
      generalize cs[k * 2]'_ = v1 at p1
      generalize cs[k * 2 + 1]'_ = v2 at p2
      have HA4 := Aside0.mk hA4.drew.drew
      have HB4 := Aside0.mk (bl_drew (bl_drew ((HB2.out.trans hB3).trans hB4)))
      have HK := Aside0.mk hk
      clear hA3 hB3 hA4 hB4 u1 u2 s67 cf cex h32 hk
      go_wp2_with fail
      refine start_ (n := 9) (S := fun w' => w'.cell? ⟨b, 65, none⟩ = some (.int .i64 (xs.length : Int)) ∧ w'.cell? ⟨bx, 0, none⟩ = some (.int .i64 x0) ∧ w'.cell? ⟨bx, 1, none⟩ = some (.int .i64 x1)) (ds := [8]) #[false, false, false, false, false, false, false, false, false] (by kernel_rfl) rfl rfl ⟨c1, x0c, x1c⟩ (fun hHeld => ?_)
      refine pure_ (i := 0) (N := some 49) (v := ?_) (a' := ?_) #[true, false, false, false, false, false, false, false, false] rfl rfl (by kernel_rfl) (fun _ _ _ h => h) (Or.inl ⟨by rfl, ?_⟩) ?_ ?_
      rotate_left
      · intro w'
        go_simp
        with_reducible rfl
      rotate_left
      · simp only [Act.put, List.setIfInBounds_toArray, List.set_cons_zero, List.set_cons_succ, i64_w, i32_w]
        rfl
      refine pure_ (i := 1) (N := some 50) (v := ?_) (a' := ?_) #[true, true, false, false, false, false, false, false, false] rfl rfl (by kernel_rfl) (fun _ _ _ h => h) (Or.inl ⟨by rfl, ?_⟩) ?_ ?_
      rotate_left
      · intro w'
        go_simp
        with_reducible rfl
      rotate_left
      · simp only [Act.put, List.setIfInBounds_toArray, List.set_cons_zero, List.set_cons_succ, i64_w, i32_w]
        rfl
      refine pure_ (i := 2) (N := some 51) (v := ?_) (a' := ?_) #[true, true, true, false, false, false, false, false, false] rfl rfl (by kernel_rfl) (fun _ _ _ h => h) (Or.inl ⟨by rfl, ?_⟩) ?_ ?_
      rotate_left
      · intro w'
        go_simp
        with_reducible rfl
      rotate_left
      · simp only [Act.put, List.setIfInBounds_toArray, List.set_cons_zero, List.set_cons_succ, i64_w, i32_w]
        rfl
      refine pure_ (i := 3) (N := some 52) (v := ?_) (a' := ?_) #[true, true, true, true, false, false, false, false, false] rfl rfl (by kernel_rfl) (fun _ _ _ h => h) (Or.inl ⟨by rfl, ?_⟩) ?_ ?_
      rotate_left
      · intro w'
        go_simp
        with_reducible rfl
      rotate_left
      · simp only [Act.put, List.setIfInBounds_toArray, List.set_cons_zero, List.set_cons_succ, i64_w, i32_w]
        rfl
      refine take_ (i := 4) (N := some 53) (v := ?_) (a' := ?_) #[true, true, true, true, true, false, false, false, false] rfl rfl (by kernel_rfl) (fun _ _ _ h => h) (Or.inl ⟨by rfl, ?_⟩) hHeld ?_ ?_
      rotate_left
      · rintro w' ⟨s0, s1, s2⟩
        go_simp
        with_reducible rfl
      rotate_left
      · simp only [Act.put, List.setIfInBounds_toArray, List.set_cons_zero, List.set_cons_succ, i64_w, i32_w]
        rfl
      refine take_ (i := 6) (N := some 55) (v := ?_) (a' := ?_) #[true, true, true, true, true, false, true, false, false] rfl rfl (by kernel_rfl) (fun _ _ _ h => h) (Or.inl ⟨by rfl, ?_⟩) hHeld ?_ ?_
      rotate_left
      · rintro w' ⟨s0, s1, s2⟩
        go_simp
        with_reducible rfl
      rotate_left
      · simp only [Act.put, List.setIfInBounds_toArray, List.set_cons_zero, List.set_cons_succ, i64_w, i32_w]
        rfl
      refine one_ (i := 5) (N := some 54) #[true, true, true, true, true, true, true, false, false] rfl rfl (by kernel_rfl) (by decide) (fun K hK => ?_)
      refine goes_ Try.func51 (by kernel_rfl) rfl #[ptr b, .int .i64 (xs.length : Int)] (by rfl) rfl rfl (by simp only [List.map_toArray, List.map_cons, List.map_nil]; rfl) ?_
      with_reducible refine (HAT.out).mono ?_
      rintro e w5 ⟨rfl, rfl⟩
      refine ⟨_, rfl, ?_⟩
      refine hK.out _ _ ⟨c1, x0c, x1c⟩ (fun hHeld => ?_)
      clear hK K
      refine norm_ (a' := ?_) ?_ ?_
      rotate_left
      · show Act.put _ (some 54) _ = _
        simp only [Act.put, List.setIfInBounds_toArray, List.set_cons_zero, List.set_cons_succ, i64_w, i32_w]
        rfl
      refine pure_ (i := 7) (N := some 56) (v := ?_) (a' := ?_) #[true, true, true, true, true, true, true, true, false] rfl rfl (by kernel_rfl) (fun _ _ _ h => h) (Or.inl ⟨by rfl, ?_⟩) ?_ ?_
      rotate_left
      · intro w'
        go_simp
        with_reducible rfl
      rotate_left
      · simp only [Act.put, List.setIfInBounds_toArray, List.set_cons_zero, List.set_cons_succ, i64_w, i32_w]
        rfl
      refine last_ (i := 8) (N := none) #[true, true, true, true, true, true, true, true, true] rfl rfl (by kernel_rfl) (by decide) (fun K hK => ?_)
      refine skip_ (w1 := ?_) (by rfl) rfl ?_ ?_
      rotate_left
      · go_simp
        rfl
      refine hK.out _ _ ?_
      clear hK K
      refine done_ (by kernel_rfl) ?_

      generalize ((w2.setCell ⟨b, k * 2, none⟩ (.int .i64 x0)).setCell ⟨b, k * 2 + 1, none⟩ (.int .i64 x1)).drew.drew = w5 at HA4 HB4 ⊢
      clear c1 x0c x1c p1 p2 z1 z2 HAT HA2 HB2
      obtain ⟨u1, u2, -, -⟩ := HA4.out.box_cell (List.mem_cons_self ..)
      have p3 : w5.cell? ⟨b, 65, none⟩ = some (.int .i64 (xs.length : Int)) := by
        have hk := HK.out
        rw [u1, set_other (by omega), set_other (by omega)]
        exact HRI.out.n
      have z3 := u2 65
      obtain ⟨hA5, hB5⟩ := HA4.out.box_set 65 (.int .i64 ((xs.length + 1 : Nat) : Int))
      have HA5 := Aside0.mk hA5
      have HB5 := Aside0.mk (HB4.out.trans hB5)
      clear u1 u2 hA5 hB5 HA4 HB4
      go_wp2_with fail
      go_ret
      obtain ⟨rfl, rfl⟩ := F0.out HLB0.out H32.out
      exact ⟨rfl, ring_shut HA5.out.swap.tail HPU.out, HB5.out⟩
    · have hlb2 : decide (x0 < y) = true := hlb.symm
      have hlb3 : x0 < y := of_decide_eq_true hlb2
      clear hy cel hlb
      go_wp2_with fail
      refine start_ (n := 21) (S := fun w' => w'.cell? ⟨b, 65, none⟩ = some (.int .i64 (xs.length : Int)) ∧ w'.cell? ⟨bx, 0, none⟩ = some (.int .i64 x0) ∧ w'.cell? ⟨b, (f + m) % 32 * 2, none⟩ = some (.int .i64 y)) (ds := []) #[false, false, false, false, false, false, false, false, false, false, false, false, false, false, false, false, false, false, false, false, false] (by kernel_rfl) rfl rfl ⟨c1, x0c, cy⟩ (fun hHeld => ?_)
      refine pure_ (i := 0) (N := some 23) (v := ?_) (a' := ?_) #[true, false, false, false, false, false, false, false, false, false, false, false, false, false, false, false, false, false, false, false, false] rfl rfl (by kernel_rfl) (fun _ _ _ h => h) (Or.inl ⟨by rfl, ?_⟩) ?_ ?_
      rotate_left
      · intro w'
        go_simp
        with_reducible rfl
      rotate_left
      · simp only [Act.put, List.setIfInBounds_toArray, List.set_cons_zero, List.set_cons_succ, i64_w, i32_w]
        rfl
      refine pure_ (i := 1) (N := some 24) (v := ?_) (a' := ?_) #[true, true, false, false, false, false, false, false, false, false, false, false, false, false, false, false, false, false, false, false, false] rfl rfl (by kernel_rfl) (fun _ _ _ h => h) (Or.inl ⟨by rfl, ?_⟩) ?_ ?_
      rotate_left
      · intro w'
        go_simp
        with_reducible rfl
      rotate_left
      · simp only [Act.put, List.setIfInBounds_toArray, List.set_cons_zero, List.set_cons_succ, i64_w, i32_w]
        rfl
      refine pure_ (i := 2) (N := some 25) (v := ?_) (a' := ?_) #[true, true, true, false, false, false, false, false, false, false, false, false, false, false, false, false, false, false, false, false, false] rfl rfl (by kernel_rfl) (fun _ _ _ h => h) (Or.inl ⟨by rfl, ?_⟩) ?_ ?_
      rotate_left
      · intro w'
        go_simp
        with_reducible rfl
      rotate_left
      · simp only [Act.put, List.setIfInBounds_toArray, List.set_cons_zero, List.set_cons_succ, i64_w, i32_w]
        rfl
      refine take_ (i := 3) (N := some 26) (v := ?_) (a' := ?_) #[true, true, true, true, false, false, false, false, false, false, false, false, false, false, false, false, false, false, false, false, false] rfl rfl (by kernel_rfl) (fun _ _ _ h => h) (Or.inl ⟨by rfl, ?_⟩) hHeld ?_ ?_
      rotate_left
      · rintro w' ⟨s0, s1, s2⟩
        go_simp
        with_reducible rfl
      rotate_left
      · simp only [Act.put, List.setIfInBounds_toArray, List.set_cons_zero, List.set_cons_succ, i64_w, i32_w]
        rfl
      refine pure_ (i := 4) (N := some 27) (v := ?_) (a' := ?_) #[true, true, true, true, true, false, false, false, false, false, false, false, false, false, false, false, false, false, false, false, false] rfl rfl (by kernel_rfl) (fun _ _ _ h => h) (Or.inl ⟨by rfl, ?_⟩) ?_ ?_
      rotate_left
      · intro w'
        go_simp
        with_reducible rfl
      rotate_left
      · simp only [Act.put, List.setIfInBounds_toArray, List.set_cons_zero, List.set_cons_succ, i64_w, i32_w]
        rfl
      refine pure_ (i := 5) (N := some 28) (v := ?_) (a' := ?_) #[true, true, true, true, true, true, false, false, false, false, false, false, false, false, false, false, false, false, false, false, false] rfl rfl (by kernel_rfl) (fun _ _ _ h => h) (Or.inl ⟨by rfl, ?_⟩) ?_ ?_
      rotate_left
      · intro w'
        go_simp
        with_reducible rfl
      rotate_left
      · simp only [Act.put, List.setIfInBounds_toArray, List.set_cons_zero, List.set_cons_succ, i64_w, i32_w]
        rfl
      refine pure_ (i := 6) (N := some 29) (v := ?_) (a' := ?_) #[true, true, true, true, true, true, true, false, false, false, false, false, false, false, false, false, false, false, false, false, false] rfl rfl (by kernel_rfl) (fun _ _ _ h => h) (Or.inl ⟨by rfl, ?_⟩) ?_ ?_
      rotate_left
      · intro w'
        go_simp
        with_reducible rfl
      rotate_left
      · simp only [Act.put, List.setIfInBounds_toArray, List.set_cons_zero, List.set_cons_succ, i64_w, i32_w]
        rfl
      refine pure_ (i := 8) (N := some 31) (v := ?_) (a' := ?_) #[true, true, true, true, true, true, true, false, true, false, false, false, false, false, false, false, false, false, false, false, false] rfl rfl (by kernel_rfl) (fun _ _ _ h => h) (Or.inl ⟨by rfl, ?_⟩) ?_ ?_
      rotate_left
      · intro w'
        go_simp
        with_reducible rfl
      rotate_left
      · simp only [Act.put, List.setIfInBounds_toArray, List.set_cons_zero, List.set_cons_succ, i64_w, i32_w]
        rfl
      refine pure_ (i := 9) (N := some 32) (v := ?_) (a' := ?_) #[true, true, true, true, true, true, true, false, true, true, false, false, false, false, false, false, false, false, false, false, false] rfl rfl (by kernel_rfl) (fun _ _ _ h => h) (Or.inl ⟨by rfl, ?_⟩) ?_ ?_
      rotate_left
      · intro w'
        go_simp
        with_reducible rfl
      rotate_left
      · simp only [Act.put, List.setIfInBounds_toArray, List.set_cons_zero, List.set_cons_succ, i64_w, i32_w]
        rfl
      refine pure_ (i := 10) (N := some 33) (v := ?_) (a' := ?_) #[true, true, true, true, true, true, true, false, true, true, true, false, false, false, false, false, false, false, false, false, false] rfl rfl (by kernel_rfl) (fun _ _ _ h => h) (Or.inl ⟨by rfl, ?_⟩) ?_ ?_
      rotate_left
      · intro w'
        go_simp
        with_reducible rfl
      rotate_left
      · simp only [Act.put, List.setIfInBounds_toArray, List.set_cons_zero, List.set_cons_succ, i64_w, i32_w]
        rfl
      refine pure_ (i := 11) (N := some 34) (v := ?_) (a' := ?_) #[true, true, true, true, true, true, true, false, true, true, true, true, false, false, false, false, false, false, false, false, false] rfl rfl (by kernel_rfl) (fun _ _ _ h => h) (Or.inl ⟨by rfl, ?_⟩) ?_ ?_
      rotate_left
      · intro w'
        go_simp
        with_reducible rfl
      rotate_left
      · simp only [Act.put, List.setIfInBounds_toArray, List.set_cons_zero, List.set_cons_succ, i64_w, i32_w]
        rfl
      refine take_ (i := 7) (N := some 30) (v := ?_) (a' := ?_) #[true, true, true, true, true, true, true, true, true, true, true, true, false, false, false, false, false, false, false, false, false] rfl rfl (by kernel_rfl) (fun _ _ _ h => h) (Or.inl ⟨by rfl, ?_⟩) hHeld ?_ ?_
      rotate_left
      · rintro w' ⟨s0, s1, s2⟩
        go_simp
        with_reducible rfl
      rotate_left
      · simp only [Act.put, List.setIfInBounds_toArray, List.set_cons_zero, List.set_cons_succ, i64_w, i32_w]
        rfl
      refine take_ (i := 12) (N := some 35) (v := ?_) (a' := ?_) #[true, true, true, true, true, true, true, true, true, true, true, true, true, false, false, false, false, false, false, false, false] rfl rfl (by kernel_rfl) (fun _ _ _ h => h) (Or.inl ⟨by rfl, ?_⟩) hHeld ?_ ?_
      rotate_left
      · rintro w' ⟨s0, s1, s2⟩
        go_simp
        with_reducible rfl
      rotate_left
      · simp only [Act.put, List.setIfInBounds_toArray, List.set_cons_zero, List.set_cons_succ, i64_w, i32_w]
        rfl
      refine pure_ (i := 13) (N := some 36) (v := ?_) (a' := ?_) #[true, true, true, true, true, true, true, true, true, true, true, true, true, true, false, false, false, false, false, false, false] rfl rfl (by kernel_rfl) (fun _ _ _ h => h) (Or.inl ⟨by rfl, ?_⟩) ?_ ?_
      rotate_left
      · intro w'
        go_simp
        with_reducible rfl
      rotate_left
      · simp only [Act.put, List.setIfInBounds_toArray, List.set_cons_zero, List.set_cons_succ, i64_w, i32_w]
        rfl
      refine one_ (i := 14) (N := some 37) #[true, true, true, true, true, true, true, true, true, true, true, true, true, true, true, false, false, false, false, false, false] rfl rfl (by kernel_rfl) (by decide) (fun K hK => ?_)
      refine goes_ Try.func51 (by kernel_rfl) rfl #[ptr b, .int .i64 (wrap64 ((xs.length : Int) - 1))] (by rfl) rfl rfl (by simp only [List.map_toArray, List.map_cons, List.map_nil]; rfl) ?_
      with_reducible refine (HAT.out).mono ?_
      rintro e w5 ⟨rfl, rfl⟩
      refine ⟨_, rfl, ?_⟩
      refine hK.out _ _ ⟨c1, x0c, cy⟩ (fun hHeld => ?_)
      clear hK K
      refine norm_ (a' := ?_) ?_ ?_
      rotate_left
      · show Act.put _ (some 37) _ = _
        simp only [Act.put, List.setIfInBounds_toArray, List.set_cons_zero, List.set_cons_succ, i64_w, i32_w]
        rfl
      refine pure_ (i := 15) (N := some 38) (v := ?_) (a' := ?_) #[true, true, true, true, true, true, true, true, true, true, true, true, true, true, true, true, false, false, false, false, false] rfl rfl (by kernel_rfl) (fun _ _ _ h => h) (Or.inl ⟨by rfl, ?_⟩) ?_ ?_
      rotate_left
      · intro w'
        go_simp
        with_reducible rfl
      rotate_left
      · simp only [Act.put, List.setIfInBounds_toArray, List.set_cons_zero, List.set_cons_succ, i64_w, i32_w]
        rfl
      refine pure_ (i := 16) (N := some 39) (v := ?_) (a' := ?_) #[true, true, true, true, true, true, true, true, true, true, true, true, true, true, true, true, true, false, false, false, false] rfl rfl (by kernel_rfl) (fun _ _ _ h => h) (Or.inl ⟨by rfl, ?_⟩) ?_ ?_
      rotate_left
      · intro w'
        go_simp
        with_reducible rfl
      rotate_left
      · simp only [Act.put, List.setIfInBounds_toArray, List.set_cons_zero, List.set_cons_succ, i64_w, i32_w]
        rfl
      refine take_ (i := 17) (N := some 40) (v := ?_) (a' := ?_) #[true, true, true, true, true, true, true, true, true, true, true, true, true, true, true, true, true, true, false, false, false] rfl rfl (by kernel_rfl) (fun _ _ _ h => h) (Or.inl ⟨by rfl, ?_⟩) hHeld ?_ ?_
      rotate_left
      · rintro w' ⟨s0, s1, s2⟩
        go_simp
        with_reducible rfl
      rotate_left
      · simp only [Act.put, List.setIfInBounds_toArray, List.set_cons_zero, List.set_cons_succ, i64_w, i32_w]
        rfl
      refine pure_ (i := 18) (N := some 41) (v := ?_) (a' := ?_) #[true, true, true, true, true, true, true, true, true, true, true, true, true, true, true, true, true, true, true, false, false] rfl rfl (by kernel_rfl) (fun _ _ _ h => h) (Or.inl ⟨by rfl, ?_⟩) ?_ ?_
      rotate_left
      · intro w'
        go_simp
        with_reducible rfl
      rotate_left
      · simp only [Act.put, List.setIfInBounds_toArray, List.set_cons_zero, List.set_cons_succ, i64_w, i32_w]
        rfl
      refine pure_ (i := 19) (N := some 42) (v := ?_) (a' := ?_) #[true, true, true, true, true, true, true, true, true, true, true, true, true, true, true, true, true, true, true, true, false] rfl rfl (by kernel_rfl) (fun _ _ _ h => h) (Or.inl ⟨by rfl, ?_⟩) ?_ ?_
      rotate_left
      · intro w'
        go_simp
        with_reducible rfl
      rotate_left
      · simp only [Act.put, List.setIfInBounds_toArray, List.set_cons_zero, List.set_cons_succ, i64_w, i32_w]
        rfl
      refine pure_ (i := 20) (N := some 22) (v := ?_) (a' := ?_) #[true, true, true, true, true, true, true, true, true, true, true, true, true, true, true, true, true, true, true, true, true] rfl rfl (by kernel_rfl) (fun _ _ _ h => h) (Or.inl ⟨by rfl, ?_⟩) ?_ ?_
      rotate_left
      · intro w'
        go_simp
        with_reducible rfl
      rotate_left
      · simp only [Act.put, List.setIfInBounds_toArray, List.set_cons_zero, List.set_cons_succ, i64_w, i32_w]
        rfl
      refine done_ (by kernel_rfl) ?_

      have HA2 := Aside0.mk HA1.out.drew.drew
      have HB2 := Aside0.mk (bl_drew (bl_drew HB1.out))
      clear c1 x0c x1c HA1 HB1 cy HAT e4 d5 d6
      generalize w1.drew.drew = w2 at HA2 HB2 ⊢
      go_wp2_with fail
      go_ret
      obtain ⟨rfl, rfl⟩ := F1.out (by first | rfl | trivial)
      exact ⟨rfl, ring_shut HA2.out.swap.tail HRI.out, HB2.out⟩
end Go.Proofs.Ytlhlaadnifkdhaa.Sr
