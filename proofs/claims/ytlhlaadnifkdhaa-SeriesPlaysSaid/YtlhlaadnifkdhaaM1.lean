/- A ring of samples, as a thing: made, at, Len: walked. No law is proved here. (with what is built on it) -/
import Derived.Test.YtlhlaadnifkdhaaRws
import Derived.Test.YtlhlaadnifkdhaaQ0
import Derived.Test.YtlhlaadnifkdhaaWLast
import Derived.Test.YtlhlaadnifkdhaaWMore
import Derived.Deep.RegionHeld3
import Derived.Deep.DrawnRows
import Derived.BigRegion
import Derived.BigQuiet
import Derived.Scope
import Derived.LoopIn
import Derived.LoopNIn
import Derived.OwnWalkIn
import Derived.TacticsInMore
import Derived.RangeFuncBox
import Derived.RangeFuncNested
import Derived.RangeFuncBound
import Derived.RangeFuncCalls
import Derived.RangeFuncLeaves
namespace Go.Proofs.Ytlhlaadnifkdhaa.Sr
open Go.RowKit Go.Proofs.YtlhlaadnifkdhaaW.PrintWords Go.Proofs.YtlhlaadnifkdhaaW.PrintLast Go.Proofs.YtlhlaadnifkdhaaW.PrintMore Go.Proofs.Ytlhlaadnifkdhaa.Q Go.Proofs.Ytlhlaadnifkdhaa.Own
set_option linter.unusedVariables false
set_option linter.unusedSimpArgs false
attribute [local go_sem ↓] Go.wp_at_zero Go.wp_at_succ

abbrev SM := S26
abbrev ptr (b : Nat) : Value := .pointer (some ⟨b, 0, none⟩)
abbrev boxR (b : Nat) (cs : Array Value) : Th := boxT b cs 101
/-- These cells are a ring with these samples, the first one at place f. -/
structure RingIs (cs : Array Value) (f : Nat) (xs : List SM) : Prop where
  size : cs.size = 67
  first : cs[64]? = some (.int .i64 (f : Int))
  n : cs[65]? = some (.int .i64 (xs.length : Int))
  made : cs[66]? = some (.bool true)
  lt : f < 32
  le : xs.length ≤ 32
  el : ∀ j (h : j < xs.length), cs[(f + j) % 32 * 2]? = some (.int .i64 xs[j].f0) ∧ cs[(f + j) % 32 * 2 + 1]? = some (.int .i64 xs[j].f1)
def ringT (b : Nat) (xs : List SM) : Th where
  on w F := ∃ cs f, (boxR b cs).on w F ∧ RingIs cs f xs
  loc := by
    rintro w w' F ⟨cs, f, h1, h2⟩ hm
    exact ⟨cs, f, (boxR b cs).loc h1 hm, h2⟩
theorem ring_open {B : Nat} {w : World} {b : Nat} {xs : List SM} {Ts : List Th} (h : Has B w (ringT b xs :: Ts)) : ∃ cs f, Has B w (boxR b cs :: Ts) ∧ RingIs cs f xs := by
  obtain ⟨h0, F, ⟨cs, f, h1, h2⟩, h3, h4⟩ := h
  exact ⟨cs, f, ⟨h0, F, h1, h3, h4⟩, h2⟩
theorem ring_shut {B : Nat} {w : World} {b : Nat} {cs : Array Value} {f : Nat} {xs : List SM} {Ts : List Th} (h : Has B w (boxR b cs :: Ts)) (hr : RingIs cs f xs) : Has B w (ringT b xs :: Ts) := by
  obtain ⟨h0, F, h1, h3, h4⟩ := h
  exact ⟨h0, F, ⟨cs, f, h1, hr⟩, h3, h4⟩
theorem ring_cells {B : Nat} {w : World} {b : Nat} {cs : Array Value} {f : Nat} {xs : List SM} {Ts : List Th} (h : Has B w Ts) (hm : boxR b cs ∈ Ts) (hr : RingIs cs f xs) :
    w.cell? ⟨b, 64, none⟩ = some (.int .i64 (f : Int)) ∧ w.cell? ⟨b, 65, none⟩ = some (.int .i64 (xs.length : Int)) ∧ w.cell? ⟨b, 66, none⟩ = some (.bool true) ∧ (∀ j, w.frozen? ⟨b, j, none⟩ = false) ∧ (∀ j (hj : j < xs.length), w.cell? ⟨b, (f + j) % 32 * 2, none⟩ = some (.int .i64 xs[j].f0) ∧ w.cell? ⟨b, (f + j) % 32 * 2 + 1, none⟩ = some (.int .i64 xs[j].f1)) ∧ ∀ j, j < 67 → ∃ v, w.cell? ⟨b, j, none⟩ = some v := by
  obtain ⟨h1, h2, -, -⟩ := h.box_cell hm
  refine ⟨(h1 64).trans hr.first, (h1 65).trans hr.n, (h1 66).trans hr.made, h2, fun j hj => ⟨(h1 _).trans (hr.el j hj).1, (h1 _).trans (hr.el j hj).2⟩, fun j hj => ?_⟩
  rw [h1]
  exact ⟨_, Array.getElem?_eq_getElem (by rw [hr.size]; exact hj)⟩
theorem rnone_calls {B : Nat} {w : World} {b : Nat} {cs : Array Value} {f : Nat} {xs : List SM} {Ts : List Th} (h : Has B w Ts) (hm : boxR b cs ∈ Ts) (hr : RingIs cs f xs) :
    Calls Try.prog 50 #[ptr b] w fun e w' => e = .returned (.bool false) ∧ w = w' := by
  obtain ⟨-, -, c2, -, -, -⟩ := ring_cells h hm hr
  clear h hm hr
  go_enter Try.func50, Try.ntmps50
  go_wp2_with fail
  go_ret
  exact ⟨rfl, rfl⟩
theorem rlen_calls {B : Nat} {w : World} {b : Nat} {cs : Array Value} {f : Nat} {xs : List SM} {Ts : List Th} (h : Has B w Ts) (hm : boxR b cs ∈ Ts) (hr : RingIs cs f xs) :
    Calls Try.prog 32 #[ptr b] w fun e w' => e = .returned (.int .i64 (xs.length : Int)) ∧ w = w' := by
  have HN := Aside0.mk (rnone_calls h hm hr)
  obtain ⟨-, c1, -, -, -, -⟩ := ring_cells h hm hr
  clear h hm hr
  go_enter Try.func32, Try.ntmps32
  go_wp2_with fail
  refine HN.out.mono ?_
  rintro e w1 ⟨rfl, rfl⟩
  go_wp2_with fail
  go_ret
  exact ⟨rfl, rfl⟩
theorem w64 {x : Int} (h0 : -9223372036854775808 ≤ x) (h1 : x ≤ 9223372036854775807) : wrap64 x = x := by unfold wrap64; omega
set_option maxHeartbeats 1000000 in
set_option maxRecDepth 100000 in
theorem rat_calls {B : Nat} {w : World} {b : Nat} {cs : Array Value} {f : Nat} {xs : List SM} {Ts : List Th} (h : Has B w Ts) (hm : boxR b cs ∈ Ts) (hr : RingIs cs f xs) (i : Nat) (hi : i ≤ 32) :
    Calls Try.prog 51 #[ptr b, .int .i64 (i : Int)] w fun e w' => e = .returned (.pointer (some ⟨b, (f + i) % 32 * 2, none⟩)) ∧ w' = w.drew := by
  obtain ⟨c0, -, -, -, -, -⟩ := ring_cells h hm hr
  have e1 : wrap64 ((f : Int) + (i : Int)) = ((f + i : Nat) : Int) := (w64 (by have := hr.lt; omega) (by have := hr.lt; omega)).trans (by omega)
  have e2 : Int.tmod ((f + i : Nat) : Int) 32 = (((f + i) % 32 : Nat) : Int) := by rw [Int.tmod_eq_emod_of_nonneg (by omega)]; omega
  have hlt : (f + i) % 32 < 32 := Nat.mod_lt _ (by decide)
  generalize (f + i) % 32 = k at e2 hlt ⊢
  generalize f + i = fi at e1 e2
  have e3 : wrap64 (k : Int) = (k : Int) := w64 (by omega) (by omega)
  have d1 : decide (0 ≤ (k : Int)) = true := decide_eq_true (by omega)
  have d2 : decide ((k : Int) < 32) = true := decide_eq_true (by omega)
  have d3 : (k : Int) < 32 := by omega
  clear h hm hr
  go_enter Try.func51, Try.ntmps51
  go_wp2_with fail
  refine start_ (n := 12) (S := fun w' => w'.cell? ⟨b, 64, none⟩ = some (.int .i64 (f : Int))) (ds := []) #[false, false, false, false, false, false, false, false, false, false, false, false] (by kernel_rfl) rfl rfl (c0) (fun hHeld => ?_)
  refine pure_ (i := 0) (N := some 5) (v := ?_) (a' := ?_) #[true, false, false, false, false, false, false, false, false, false, false, false] rfl rfl (by kernel_rfl) (fun _ _ _ h => h) (Or.inl ⟨by rfl, ?_⟩) ?_ ?_
  rotate_left
  · intro w'
    go_simp
    with_reducible rfl
  rotate_left
  · simp only [Act.put, List.setIfInBounds_toArray, List.set_cons_zero, List.set_cons_succ, i64_w, i32_w]
    rfl
  refine pure_ (i := 1) (N := some 6) (v := ?_) (a' := ?_) #[true, true, false, false, false, false, false, false, false, false, false, false] rfl rfl (by kernel_rfl) (fun _ _ _ h => h) (Or.inl ⟨by rfl, ?_⟩) ?_ ?_
  rotate_left
  · intro w'
    go_simp
    with_reducible rfl
  rotate_left
  · simp only [Act.put, List.setIfInBounds_toArray, List.set_cons_zero, List.set_cons_succ, i64_w, i32_w]
    rfl
  refine pure_ (i := 2) (N := some 7) (v := ?_) (a' := ?_) #[true, true, true, false, false, false, false, false, false, false, false, false] rfl rfl (by kernel_rfl) (fun _ _ _ h => h) (Or.inl ⟨by rfl, ?_⟩) ?_ ?_
  rotate_left
  · intro w'
    go_simp
    with_reducible rfl
  rotate_left
  · simp only [Act.put, List.setIfInBounds_toArray, List.set_cons_zero, List.set_cons_succ, i64_w, i32_w]
    rfl
  refine pure_ (i := 3) (N := some 8) (v := ?_) (a' := ?_) #[true, true, true, true, false, false, false, false, false, false, false, false] rfl rfl (by kernel_rfl) (fun _ _ _ h => h) (Or.inl ⟨by rfl, ?_⟩) ?_ ?_
  rotate_left
  · intro w'
    go_simp
    with_reducible rfl
  rotate_left
  · simp only [Act.put, List.setIfInBounds_toArray, List.set_cons_zero, List.set_cons_succ, i64_w, i32_w]
    rfl
  refine pure_ (i := 5) (N := some 10) (v := ?_) (a' := ?_) #[true, true, true, true, false, true, false, false, false, false, false, false] rfl rfl (by kernel_rfl) (fun _ _ _ h => h) (Or.inl ⟨by rfl, ?_⟩) ?_ ?_
  rotate_left
  · intro w'
    go_simp
    with_reducible rfl
  rotate_left
  · simp only [Act.put, List.setIfInBounds_toArray, List.set_cons_zero, List.set_cons_succ, i64_w, i32_w]
    rfl
  refine pure_ (i := 8) (N := some 13) (v := ?_) (a' := ?_) #[true, true, true, true, false, true, false, false, true, false, false, false] rfl rfl (by kernel_rfl) (fun _ _ _ h => h) (Or.inl ⟨by rfl, ?_⟩) ?_ ?_
  rotate_left
  · intro w'
    go_simp
    with_reducible rfl
  rotate_left
  · simp only [Act.put, List.setIfInBounds_toArray, List.set_cons_zero, List.set_cons_succ, i64_w, i32_w]
    rfl
  refine pure_ (i := 9) (N := some 14) (v := ?_) (a' := ?_) #[true, true, true, true, false, true, false, false, true, true, false, false] rfl rfl (by kernel_rfl) (fun _ _ _ h => h) (Or.inl ⟨by rfl, ?_⟩) ?_ ?_
  rotate_left
  · intro w'
    go_simp
    with_reducible rfl
  rotate_left
  · simp only [Act.put, List.setIfInBounds_toArray, List.set_cons_zero, List.set_cons_succ, i64_w, i32_w]
    rfl
  refine take_ (i := 4) (N := some 9) (v := ?_) (a' := ?_) #[true, true, true, true, true, true, false, false, true, true, false, false] rfl rfl (by kernel_rfl) (fun _ _ _ h => h) (Or.inl ⟨by rfl, ?_⟩) hHeld ?_ ?_
  rotate_left
  · intro w' s0
    go_simp
    with_reducible rfl
  rotate_left
  · simp only [Act.put, List.setIfInBounds_toArray, List.set_cons_zero, List.set_cons_succ, i64_w, i32_w]
    rfl
  refine pure_ (i := 6) (N := some 11) (v := ?_) (a' := ?_) #[true, true, true, true, true, true, true, false, true, true, false, false] rfl rfl (by kernel_rfl) (fun _ _ _ h => h) (Or.inl ⟨by rfl, ?_⟩) ?_ ?_
  rotate_left
  · intro w'
    go_simp
    with_reducible rfl
  rotate_left
  · simp only [Act.put, List.setIfInBounds_toArray, List.set_cons_zero, List.set_cons_succ, i64_w, i32_w]
    rfl
  refine pure_ (i := 7) (N := some 12) (v := ?_) (a' := ?_) #[true, true, true, true, true, true, true, true, true, true, false, false] rfl rfl (by kernel_rfl) (fun _ _ _ h => h) (Or.inl ⟨by rfl, ?_⟩) ?_ ?_
  rotate_left
  · intro w'
    go_simp
    with_reducible rfl
  rotate_left
  · simp only [Act.put, List.setIfInBounds_toArray, List.set_cons_zero, List.set_cons_succ, i64_w, i32_w]
    rfl
  refine pure_ (i := 10) (N := some 15) (v := ?_) (a' := ?_) #[true, true, true, true, true, true, true, true, true, true, true, false] rfl rfl (by kernel_rfl) (fun _ _ _ h => h) (Or.inl ⟨by rfl, ?_⟩) ?_ ?_
  rotate_left
  · intro w'
    go_simp
    with_reducible rfl
  rotate_left
  · simp only [Act.put, List.setIfInBounds_toArray, List.set_cons_zero, List.set_cons_succ, i64_w, i32_w]
    rfl
  refine pure_ (i := 11) (N := some 4) (v := ?_) (a' := ?_) #[true, true, true, true, true, true, true, true, true, true, true, true] rfl rfl (by kernel_rfl) (fun _ _ _ h => h) (Or.inl ⟨by rfl, ?_⟩) ?_ ?_
  rotate_left
  · intro w'
    go_simp
    with_reducible rfl
  rotate_left
  · simp only [Act.put, List.setIfInBounds_toArray, List.set_cons_zero, List.set_cons_succ, i64_w, i32_w]
    rfl
  refine done_ (by kernel_rfl) ?_

  go_wp2_with fail
  go_ret
  exact ⟨rfl, rfl⟩
end Go.Proofs.Ytlhlaadnifkdhaa.Sr
namespace Go.Proofs.Ytlhlaadnifkdhaa.Sr
open Go.RowKit Go.Proofs.YtlhlaadnifkdhaaW.PrintWords Go.Proofs.YtlhlaadnifkdhaaW.PrintLast Go.Proofs.YtlhlaadnifkdhaaW.PrintMore Go.Proofs.Ytlhlaadnifkdhaa.Q Go.Proofs.Ytlhlaadnifkdhaa.Own
set_option linter.unusedVariables false
set_option linter.unusedSimpArgs false
attribute [local go_sem ↓] Go.wp_at_zero Go.wp_at_succ

def badX (x : SM) : Prop := x.f0 < 0 ∨ x.f1 < -4611686018427387903 ∨ 4611686018427387903 < x.f1
instance (x : SM) : Decidable (badX x) := inferInstanceAs (Decidable (_ ∨ _ ∨ _))
def lateB (xs : List SM) (x : SM) : Bool := match xs.getLast? with | some y => decide (x.f0 < y.f0) | none => false
/-- What a push is answered, and what it leaves. -/
def pushE (xs : List SM) (x : SM) : Int := if badX x then 2 else if lateB xs x = true then 160 else if xs.length = 32 then 4 else 0
def pushL (xs : List SM) (x : SM) : List SM := if pushE xs x = 0 then xs ++ [x] else xs
theorem set_other {cs : Array Value} {i j : Nat} {v : Value} (h : i ≠ j) : (cs.setIfInBounds i v)[j]? = cs[j]? := by rw [Array.getElem?_setIfInBounds, if_neg h]
theorem set_same {cs : Array Value} {i : Nat} {v : Value} (h : i < cs.size) : (cs.setIfInBounds i v)[i]? = some v := by rw [Array.getElem?_setIfInBounds, if_pos rfl, if_pos h]
theorem RingIs.push {cs : Array Value} {f : Nat} {xs : List SM} (h : RingIs cs f xs) (hn : xs.length < 32) (x : SM) :
    RingIs (((cs.setIfInBounds ((f + xs.length) % 32 * 2) (.int .i64 x.f0)).setIfInBounds ((f + xs.length) % 32 * 2 + 1) (.int .i64 x.f1)).setIfInBounds 65 (.int .i64 ((xs.length + 1 : Nat) : Int))) f (xs ++ [x]) := by
  have hs := h.size
  have hf := h.lt
  have hk : (f + xs.length) % 32 < 32 := Nat.mod_lt _ (by decide)
  refine ⟨by simp [hs], ?_, ?_, ?_, hf, by rw [List.length_append]; show xs.length + 1 ≤ 32; omega, fun j hj => ?_⟩
  · rw [set_other (by omega), set_other (by omega), set_other (by omega)]
    exact h.first
  · rw [set_same (by simp [hs]), List.length_append]
    rfl
  · rw [set_other (by omega), set_other (by omega), set_other (by omega)]
    exact h.made
  · have hj' : j < xs.length + 1 := by rw [List.length_append] at hj; exact hj
    have hkj : (f + j) % 32 < 32 := Nat.mod_lt _ (by decide)
    by_cases e : j = xs.length
    · subst e
      have e2 : (xs ++ [x])[xs.length] = x := by simp
      rw [e2]
      constructor
      · rw [set_other (by omega), set_other (by omega), set_same (by rw [hs]; omega)]
      · rw [set_other (by omega), set_same (by simp [hs]; omega)]
    · have hne : (f + j) % 32 ≠ (f + xs.length) % 32 := by omega
      obtain ⟨q1, q2⟩ := h.el j (by omega)
      rw [List.getElem_append_left (by omega)]
      constructor
      · rw [set_other (by omega), set_other (by omega), set_other (by omega)]
        exact q1
      · rw [set_other (by omega), set_other (by omega), set_other (by omega)]
        exact q2
theorem last_some {xs : List SM} (h : 0 < xs.length) : xs.getLast? = some (xs[xs.length - 1]'(by omega)) := by
  rw [List.getLast?_eq_getElem?, List.getElem?_eq_getElem (by omega)]
abbrev xT (b : Nat) (x : SM) : Th := boxT b #[.int .i64 x.f0, .int .i64 x.f1] 26
set_option maxHeartbeats 4000000 in
set_option maxRecDepth 100000 in
theorem rpush_calls {B : Nat} {w : World} {b : Nat} {xs : List SM} {Ts : List Th} (h : Has B w (ringT b xs :: Ts)) (x : SM) :
    Calls Try.prog 28 #[ptr b, .agg #[.int .i64 x.f0, .int .i64 x.f1]] w fun e w' => e = .returned (.int .i64 (pushE xs x)) ∧ Has B w' (ringT b (pushL xs x) :: Ts) ∧ Below B w w' := by
  have hu26 := Try.underlying26
  obtain ⟨cs, f, hA, hr⟩ := ring_open h
  obtain ⟨x0, x1⟩ := x
  have hA1 : Has B (w.alloc (.cells #[.int .i64 x0, .int .i64 x1] 26)) (boxR b cs :: boxT w.heap.size #[.int .i64 x0, .int .i64 x1] 26 :: Ts) := (hA.box #[.int .i64 x0, .int .i64 x1] 26).swap
  have HB1 : Aside0 (Below B w (w.alloc (.cells #[.int .i64 x0, .int .i64 x1] 26))) := ⟨(Below.refl B w).alloc h.size _⟩
  have HA1 := Aside0.mk hA1
  have HRI := Aside0.mk hr
  have HN := Aside0.mk (rnone_calls hA1 (List.mem_cons_self ..) hr)
  clear h hA hA1 hr
  dsimp only
  by_cases hb : badX ⟨x0, x1⟩
  · have e0 : pushE xs ⟨x0, x1⟩ = 2 := if_pos hb
    have e1 : pushL xs ⟨x0, x1⟩ = xs := by unfold pushL; rw [e0, if_neg (by decide)]
    rw [e0, e1]
    have HX : Aside0 (badX ⟨x0, x1⟩) := ⟨hb⟩
    clear hb e0 e1
    go_enter Try.func28, Try.ntmps28
    go_wp2_with fail
    refine HN.out.mono ?_
    rintro e w1 ⟨rfl, rfl⟩
    by_cases h0 : x0 < 0
    · have d0 : decide (x0 < 0) = true := decide_eq_true h0
      go_wp2_with fail
      go_ret
      exact ⟨rfl, ring_shut HA1.out.swap.tail HRI.out, HB1.out⟩
    · have d0 : decide (x0 < 0) = false := decide_eq_false h0
      by_cases h1 : x1 < -4611686018427387903
      · have d1 : decide (x1 < -4611686018427387903) = true := decide_eq_true h1
        go_wp2_with fail
        go_ret
        exact ⟨rfl, ring_shut HA1.out.swap.tail HRI.out, HB1.out⟩
      · have d1 : decide (x1 < -4611686018427387903) = false := decide_eq_false h1
        have h2 : 4611686018427387903 < x1 := by
          rcases HX.out with q | q | q
          · exact absurd q h0
          · exact absurd q h1
          · exact q
        have d2 : decide (x1 > 4611686018427387903) = true := decide_eq_true h2
        go_wp2_with fail
        go_ret
        exact ⟨rfl, ring_shut HA1.out.swap.tail HRI.out, HB1.out⟩
  have e0 : pushE xs ⟨x0, x1⟩ = if lateB xs ⟨x0, x1⟩ = true then 160 else if xs.length = 32 then 4 else 0 := if_neg hb
  have h0 : ¬ x0 < 0 := fun q => hb (.inl q)
  have h1 : ¬ x1 < -4611686018427387903 := fun q => hb (.inr (.inl q))
  have h2 : ¬ 4611686018427387903 < x1 := fun q => hb (.inr (.inr q))
  have d0 : decide (x0 < 0) = false := decide_eq_false h0
  have d1 : decide (x1 < -4611686018427387903) = false := decide_eq_false h1
  have d2 : decide (x1 > 4611686018427387903) = false := decide_eq_false h2
  clear hb
  obtain ⟨c0, c1, c2, cf, cel, cex⟩ := ring_cells HA1.out (List.mem_cons_self ..) HRI.out
  obtain ⟨bx, -, -, -⟩ := HA1.out.box_cell (b := w.heap.size) (cs := #[.int .i64 x0, .int .i64 x1]) (t := 26) (by simp)
  have x0c : (w.alloc (.cells #[.int .i64 x0, .int .i64 x1] 26)).cell? ⟨w.heap.size, 0, none⟩ = some (.int .i64 x0) := bx 0
  have x1c : (w.alloc (.cells #[.int .i64 x0, .int .i64 x1] 26)).cell? ⟨w.heap.size, 1, none⟩ = some (.int .i64 x1) := bx 1
  have hle := HRI.out.le
  clear bx cf cex c0 c2
  have HLE : Aside0 (xs.length ≤ 32) := ⟨hle⟩
  have fin4 : lateB xs ⟨x0, x1⟩ = false → xs.length = 32 → pushE xs ⟨x0, x1⟩ = 4 ∧ pushL xs ⟨x0, x1⟩ = xs := fun q1 q2 => by
    have e : pushE xs ⟨x0, x1⟩ = 4 := by rw [e0, q1, if_neg (by decide), if_pos q2]
    exact ⟨e, by unfold pushL; rw [e, if_neg (by decide)]⟩
  have fin1 : lateB xs ⟨x0, x1⟩ = true → pushE xs ⟨x0, x1⟩ = 160 ∧ pushL xs ⟨x0, x1⟩ = xs := fun q1 => by
    have e : pushE xs ⟨x0, x1⟩ = 160 := by rw [e0, q1, if_pos rfl]
    exact ⟨e, by unfold pushL; rw [e, if_neg (by decide)]⟩
  have fin0 : lateB xs ⟨x0, x1⟩ = false → ¬ xs.length = 32 → pushE xs ⟨x0, x1⟩ = 0 ∧ pushL xs ⟨x0, x1⟩ = xs ++ [⟨x0, x1⟩] := fun q1 q2 => by
    have e : pushE xs ⟨x0, x1⟩ = 0 := by rw [e0, q1, if_neg (by decide), if_neg q2]
    exact ⟨e, by unfold pushL; rw [e, if_pos rfl]⟩
  have F4 := Aside0.mk fin4
  have F1 := Aside0.mk fin1
  have F0 := Aside0.mk fin0
  clear fin4 fin1 fin0 e0
  generalize hPE : pushE xs ⟨x0, x1⟩ = pe at F4 F1 F0 ⊢
  generalize hPL : pushL xs ⟨x0, x1⟩ = pl at F4 F1 F0 ⊢
  generalize hLB : lateB xs ⟨x0, x1⟩ = lb at F4 F1 F0
  have HLB := Aside0.mk hLB
  clear hPE hPL hLB
  generalize hbx : w.heap.size = bx at HA1 x0c x1c
  go_enter Try.func28, Try.ntmps28
  go_wp2_with fail
  refine HN.out.mono ?_
  rintro e w1 ⟨rfl, rfl⟩
  clear hbx HN
  generalize w.alloc (.cells #[.int .i64 x0, .int .i64 x1] 26) = w1 at HA1 HB1 c1 cel x0c x1c ⊢
  rcases Nat.eq_zero_or_pos xs.length with hz | hp
  · have HLB0 : Aside0 (lb = false) := ⟨by rw [← HLB.out, List.eq_nil_of_length_eq_zero hz]; rfl⟩
    have c1 : w1.cell? ⟨b, 65, none⟩ = some (.int .i64 0) := by rw [hz] at c1; exact c1
    clear hz cel
    go_wp2_with fail
    refine start_ (n := 21) (S := fun w' => w'.cell? ⟨b, 65, none⟩ = some (.int .i64 0)) (ds := []) #[false, false, false, false, false, false, false, false, false, false, false, false, false, false, false, false, false, false, false, false, false] (by kernel_rfl) rfl rfl (c1) (fun hHeld => ?_)
    refine pure_ (i := 0) (N := some 23) (v := ?_) (a' := ?_) #[true, false, false, false, false, false, false, false, false, false, false, false, false, false, false, false, false, false, false, false, false] rfl rfl (by kernel_rfl) (fun _ _ _ h => h) (Or.inl ⟨by rfl, ?_⟩) ?_ ?_
    rotate_left
    · intro w'
      go_simp
      with_reducible rfl
    rotate_left
    · simp only [Act.put, List.setIfInBounds_toArray, List.set_cons_zero, List.set_cons_succ, i64_w, i32_w]
      rfl
    refine pure_ (i := 1) (N := some 24) (v := ?_) (a' := ?_) #[true, true, false, false, false, false, false, false, false, false, false, false, false, false, false, false, false, false, false, false, false] rfl rfl (by kernel_rfl) (fun _ _ _ h => h) (Or.inl ⟨by rfl, ?_⟩) ?_ ?_
    rotate_left
    · intro w'
      go_simp
      with_reducible rfl
    rotate_left
    · simp only [Act.put, List.setIfInBounds_toArray, List.set_cons_zero, List.set_cons_succ, i64_w, i32_w]
      rfl
    refine pure_ (i := 2) (N := some 25) (v := ?_) (a' := ?_) #[true, true, true, false, false, false, false, false, false, false, false, false, false, false, false, false, false, false, false, false, false] rfl rfl (by kernel_rfl) (fun _ _ _ h => h) (Or.inl ⟨by rfl, ?_⟩) ?_ ?_
    rotate_left
    · intro w'
      go_simp
      with_reducible rfl
    rotate_left
    · simp only [Act.put, List.setIfInBounds_toArray, List.set_cons_zero, List.set_cons_succ, i64_w, i32_w]
      rfl
    refine take_ (i := 3) (N := some 26) (v := ?_) (a' := ?_) #[true, true, true, true, false, false, false, false, false, false, false, false, false, false, false, false, false, false, false, false, false] rfl rfl (by kernel_rfl) (fun _ _ _ h => h) (Or.inl ⟨by rfl, ?_⟩) hHeld ?_ ?_
    rotate_left
    · intro w' s0
      go_simp
      with_reducible rfl
    rotate_left
    · simp only [Act.put, List.setIfInBounds_toArray, List.set_cons_zero, List.set_cons_succ, i64_w, i32_w]
      rfl
    refine pure_ (i := 4) (N := some 27) (v := ?_) (a' := ?_) #[true, true, true, true, true, false, false, false, false, false, false, false, false, false, false, false, false, false, false, false, false] rfl rfl (by kernel_rfl) (fun _ _ _ h => h) (Or.inl ⟨by rfl, ?_⟩) ?_ ?_
    rotate_left
    · intro w'
      go_simp
      with_reducible rfl
    rotate_left
    · simp only [Act.put, List.setIfInBounds_toArray, List.set_cons_zero, List.set_cons_succ, i64_w, i32_w]
      rfl
    refine pure_ (i := 5) (N := some 28) (v := ?_) (a' := ?_) #[true, true, true, true, true, true, false, false, false, false, false, false, false, false, false, false, false, false, false, false, false] rfl rfl (by kernel_rfl) (fun _ _ _ h => h) (Or.inl ⟨by rfl, ?_⟩) ?_ ?_
    rotate_left
    · intro w'
      go_simp
      with_reducible rfl
    rotate_left
    · simp only [Act.put, List.setIfInBounds_toArray, List.set_cons_zero, List.set_cons_succ, i64_w, i32_w]
      rfl
    refine pure_ (i := 6) (N := some 29) (v := undef) (a' := ?_) #[true, true, true, true, true, true, true, false, false, false, false, false, false, false, false, false, false, false, false, false, false] rfl rfl (by kernel_rfl) (fun _ _ _ h => h) (Or.inr ⟨by rfl, rfl⟩) ?_ ?_
    rotate_left
    · simp only [Act.put, List.setIfInBounds_toArray, List.set_cons_zero, List.set_cons_succ, i64_w, i32_w]
      rfl
    refine pure_ (i := 7) (N := some 30) (v := undef) (a' := ?_) #[true, true, true, true, true, true, true, true, false, false, false, false, false, false, false, false, false, false, false, false, false] rfl rfl (by kernel_rfl) (fun _ _ _ h => h) (Or.inr ⟨by rfl, rfl⟩) ?_ ?_
    rotate_left
    · simp only [Act.put, List.setIfInBounds_toArray, List.set_cons_zero, List.set_cons_succ, i64_w, i32_w]
      rfl
    refine pure_ (i := 8) (N := some 31) (v := undef) (a' := ?_) #[true, true, true, true, true, true, true, true, true, false, false, false, false, false, false, false, false, false, false, false, false] rfl rfl (by kernel_rfl) (fun _ _ _ h => h) (Or.inr ⟨by rfl, rfl⟩) ?_ ?_
    rotate_left
    · simp only [Act.put, List.setIfInBounds_toArray, List.set_cons_zero, List.set_cons_succ, i64_w, i32_w]
      rfl
    refine pure_ (i := 9) (N := some 32) (v := undef) (a' := ?_) #[true, true, true, true, true, true, true, true, true, true, false, false, false, false, false, false, false, false, false, false, false] rfl rfl (by kernel_rfl) (fun _ _ _ h => h) (Or.inr ⟨by rfl, rfl⟩) ?_ ?_
    rotate_left
    · simp only [Act.put, List.setIfInBounds_toArray, List.set_cons_zero, List.set_cons_succ, i64_w, i32_w]
      rfl
    refine pure_ (i := 10) (N := some 33) (v := undef) (a' := ?_) #[true, true, true, true, true, true, true, true, true, true, true, false, false, false, false, false, false, false, false, false, false] rfl rfl (by kernel_rfl) (fun _ _ _ h => h) (Or.inr ⟨by rfl, rfl⟩) ?_ ?_
    rotate_left
    · simp only [Act.put, List.setIfInBounds_toArray, List.set_cons_zero, List.set_cons_succ, i64_w, i32_w]
      rfl
    refine pure_ (i := 11) (N := some 34) (v := undef) (a' := ?_) #[true, true, true, true, true, true, true, true, true, true, true, true, false, false, false, false, false, false, false, false, false] rfl rfl (by kernel_rfl) (fun _ _ _ h => h) (Or.inr ⟨by rfl, rfl⟩) ?_ ?_
    rotate_left
    · simp only [Act.put, List.setIfInBounds_toArray, List.set_cons_zero, List.set_cons_succ, i64_w, i32_w]
      rfl
    refine pure_ (i := 12) (N := some 35) (v := undef) (a' := ?_) #[true, true, true, true, true, true, true, true, true, true, true, true, true, false, false, false, false, false, false, false, false] rfl rfl (by kernel_rfl) (fun _ _ _ h => h) (Or.inr ⟨by rfl, rfl⟩) ?_ ?_
    rotate_left
    · simp only [Act.put, List.setIfInBounds_toArray, List.set_cons_zero, List.set_cons_succ, i64_w, i32_w]
      rfl
    refine pure_ (i := 13) (N := some 36) (v := undef) (a' := ?_) #[true, true, true, true, true, true, true, true, true, true, true, true, true, true, false, false, false, false, false, false, false] rfl rfl (by kernel_rfl) (fun _ _ _ h => h) (Or.inr ⟨by rfl, rfl⟩) ?_ ?_
    rotate_left
    · simp only [Act.put, List.setIfInBounds_toArray, List.set_cons_zero, List.set_cons_succ, i64_w, i32_w]
      rfl
    refine pure_ (i := 14) (N := some 37) (v := undef) (a' := ?_) #[true, true, true, true, true, true, true, true, true, true, true, true, true, true, true, false, false, false, false, false, false] rfl rfl (by kernel_rfl) (fun _ _ _ h => h) (Or.inr ⟨by rfl, rfl⟩) ?_ ?_
    rotate_left
    · simp only [Act.put, List.setIfInBounds_toArray, List.set_cons_zero, List.set_cons_succ, i64_w, i32_w]
      rfl
    refine pure_ (i := 15) (N := some 38) (v := undef) (a' := ?_) #[true, true, true, true, true, true, true, true, true, true, true, true, true, true, true, true, false, false, false, false, false] rfl rfl (by kernel_rfl) (fun _ _ _ h => h) (Or.inr ⟨by rfl, rfl⟩) ?_ ?_
    rotate_left
    · simp only [Act.put, List.setIfInBounds_toArray, List.set_cons_zero, List.set_cons_succ, i64_w, i32_w]
      rfl
    refine pure_ (i := 16) (N := some 39) (v := undef) (a' := ?_) #[true, true, true, true, true, true, true, true, true, true, true, true, true, true, true, true, true, false, false, false, false] rfl rfl (by kernel_rfl) (fun _ _ _ h => h) (Or.inr ⟨by rfl, rfl⟩) ?_ ?_
    rotate_left
    · simp only [Act.put, List.setIfInBounds_toArray, List.set_cons_zero, List.set_cons_succ, i64_w, i32_w]
      rfl
    refine pure_ (i := 17) (N := some 40) (v := undef) (a' := ?_) #[true, true, true, true, true, true, true, true, true, true, true, true, true, true, true, true, true, true, false, false, false] rfl rfl (by kernel_rfl) (fun _ _ _ h => h) (Or.inr ⟨by rfl, rfl⟩) ?_ ?_
    rotate_left
    · simp only [Act.put, List.setIfInBounds_toArray, List.set_cons_zero, List.set_cons_succ, i64_w, i32_w]
      rfl
    refine pure_ (i := 18) (N := some 41) (v := undef) (a' := ?_) #[true, true, true, true, true, true, true, true, true, true, true, true, true, true, true, true, true, true, true, false, false] rfl rfl (by kernel_rfl) (fun _ _ _ h => h) (Or.inr ⟨by rfl, rfl⟩) ?_ ?_
    rotate_left
    · simp only [Act.put, List.setIfInBounds_toArray, List.set_cons_zero, List.set_cons_succ, i64_w, i32_w]
      rfl
    refine pure_ (i := 19) (N := some 42) (v := ?_) (a' := ?_) #[true, true, true, true, true, true, true, true, true, true, true, true, true, true, true, true, true, true, true, true, false] rfl rfl (by kernel_rfl) (fun _ _ _ h => h) (Or.inl ⟨by rfl, ?_⟩) ?_ ?_
    rotate_left
    · intro w'
      go_simp
      with_reducible rfl
    rotate_left
    · simp only [Act.put, List.setIfInBounds_toArray, List.set_cons_zero, List.set_cons_succ, i64_w, i32_w]
      rfl
    refine pure_ (i := 20) (N := some 22) (v := ?_) (a' := ?_) #[true, true, true, true, true, true, true, true, true, true, true, true, true, true, true, true, true, true, true, true, true] rfl rfl (by kernel_rfl) (fun _ _ _ h => h) (Or.inl ⟨by rfl, ?_⟩) ?_ ?_
    rotate_left
    · intro w'
      go_simp
      with_reducible rfl
    rotate_left
    · simp only [Act.put, List.setIfInBounds_toArray, List.set_cons_zero, List.set_cons_succ, i64_w, i32_w]
      rfl
    refine done_ (by kernel_rfl) ?_

    have HA2 := Aside0.mk HA1.out.drew
    have HB2 := Aside0.mk (bl_drew HB1.out)
    clear c1 x0c x1c HA1 HB1
    generalize w1.drew = w2 at HA2 HB2 ⊢
    obtain ⟨-, c1, -, cf, -, cex⟩ := ring_cells HA2.out (List.mem_cons_self ..) HRI.out
    obtain ⟨bx2, -, -, -⟩ := HA2.out.box_cell (b := bx) (cs := #[.int .i64 x0, .int .i64 x1]) (t := 26) (by simp)
    have x0c : w2.cell? ⟨bx, 0, none⟩ = some (.int .i64 x0) := bx2 0
    have x1c : w2.cell? ⟨bx, 1, none⟩ = some (.int .i64 x1) := bx2 1
    clear bx2
    by_cases h32 : xs.length = 32
    · have d3 : ((xs.length : Int) == 32) = true := beq_iff_eq.2 (by omega)
      have H32 := Aside0.mk h32
      clear h32 cex cf
      go_wp2_with fail
      go_ret
      obtain ⟨rfl, rfl⟩ := F4.out HLB0.out H32.out
      exact ⟨rfl, ring_shut HA2.out.swap.tail HRI.out, HB2.out⟩
    have d3 : ((xs.length : Int) == 32) = false := beq_eq_false_iff_ne.2 (by omega)
    have d4 : ¬ (xs.length : Int) = 32 := by omega
    have HAT := Aside0.mk (rat_calls HA2.out.drew (List.mem_cons_self ..) HRI.out xs.length (by omega))
    have HPU := Aside0.mk (HRI.out.push (by omega) ⟨x0, x1⟩)
    have e5 : wrap64 ((xs.length : Int) + 1) = ((xs.length + 1 : Nat) : Int) := (w64 (x := (xs.length : Int) + 1) (by omega) (by omega)).trans (by omega)
    have hk : (f + xs.length) % 32 < 32 := Nat.mod_lt _ (by decide)
    have H32 := Aside0.mk h32
    dsimp only at HPU
    generalize (f + xs.length) % 32 = k at HAT HPU hk
    obtain ⟨hA3, hB3⟩ := HA2.out.box_set (k * 2) (.int .i64 x0)
    obtain ⟨hA4, hB4⟩ := hA3.box_set (k * 2 + 1) (.int .i64 x1)
    obtain ⟨u1, u2, -, -⟩ := HA2.out.box_cell (List.mem_cons_self ..)
    have s67 := HRI.out.size
    have p1 := (u1 (k * 2)).trans (Array.getElem?_eq_getElem (by omega))
    have p2 := (u1 (k * 2 + 1)).trans (Array.getElem?_eq_getElem (by omega))
    have z1 := u2 (k * 2)
    have z2 := u2 (k * 2 + 1)
    generalize cs[k * 2]'_ = v1 at p1
    generalize cs[k * 2 + 1]'_ = v2 at p2
    have HA4 := Aside0.mk hA4.drew.drew
    have HB4 := Aside0.mk (bl_drew (bl_drew ((HB2.out.trans hB3).trans hB4)))
    have HK := Aside0.mk hk
    clear hA3 hB3 hA4 hB4 u1 u2 s67 cf cex h32 hk
    go_wp2_with fail
    refine start_ (n := 9) (S := fun w' => w'.cell? ⟨b, 65, none⟩ = some (.int .i64 (xs.length : Int)) ∧ w'.cell? ⟨bx, 0, none⟩ = some (.int .i64 x0) ∧ w'.cell? ⟨bx, 1, none⟩ = some (.int .i64 x1)) (ds := [8]) #[false, false, false, false, false, false, false, false, false] (by kernel_rfl) rfl rfl ⟨c1, x0c, x1c⟩ (fun hHeld => ?_)
    refine pure_ (i := 0) (N := some 49) (v := ?_) (a' := ?_) #[true, false, false, false, false, false, false, false, false] rfl rfl (by kernel_rfl) (fun _ _ _ h => h) (Or.inl ⟨by rfl, ?_⟩) ?_ ?_
    rotate_left
    · intro w'
      go_simp
      with_reducible rfl
    rotate_left
    · simp only [Act.put, List.setIfInBounds_toArray, List.set_cons_zero, List.set_cons_succ, i64_w, i32_w]
      rfl
    refine pure_ (i := 1) (N := some 50) (v := ?_) (a' := ?_) #[true, true, false, false, false, false, false, false, false] rfl rfl (by kernel_rfl) (fun _ _ _ h => h) (Or.inl ⟨by rfl, ?_⟩) ?_ ?_
    rotate_left
    · intro w'
      go_simp
      with_reducible rfl
    rotate_left
    · simp only [Act.put, List.setIfInBounds_toArray, List.set_cons_zero, List.set_cons_succ, i64_w, i32_w]
      rfl
    refine pure_ (i := 2) (N := some 51) (v := ?_) (a' := ?_) #[true, true, true, false, false, false, false, false, false] rfl rfl (by kernel_rfl) (fun _ _ _ h => h) (Or.inl ⟨by rfl, ?_⟩) ?_ ?_
    rotate_left
    · intro w'
      go_simp
      with_reducible rfl
    rotate_left
    · simp only [Act.put, List.setIfInBounds_toArray, List.set_cons_zero, List.set_cons_succ, i64_w, i32_w]
      rfl
    refine pure_ (i := 3) (N := some 52) (v := ?_) (a' := ?_) #[true, true, true, true, false, false, false, false, false] rfl rfl (by kernel_rfl) (fun _ _ _ h => h) (Or.inl ⟨by rfl, ?_⟩) ?_ ?_
    rotate_left
    · intro w'
      go_simp
      with_reducible rfl
    rotate_left
    · simp only [Act.put, List.setIfInBounds_toArray, List.set_cons_zero, List.set_cons_succ, i64_w, i32_w]
      rfl
    refine take_ (i := 4) (N := some 53) (v := ?_) (a' := ?_) #[true, true, true, true, true, false, false, false, false] rfl rfl (by kernel_rfl) (fun _ _ _ h => h) (Or.inl ⟨by rfl, ?_⟩) hHeld ?_ ?_
    rotate_left
    · rintro w' ⟨s0, s1, s2⟩
      go_simp
      with_reducible rfl
    rotate_left
    · simp only [Act.put, List.setIfInBounds_toArray, List.set_cons_zero, List.set_cons_succ, i64_w, i32_w]
      rfl
    refine take_ (i := 6) (N := some 55) (v := ?_) (a' := ?_) #[true, true, true, true, true, false, true, false, false] rfl rfl (by kernel_rfl) (fun _ _ _ h => h) (Or.inl ⟨by rfl, ?_⟩) hHeld ?_ ?_
    rotate_left
    · rintro w' ⟨s0, s1, s2⟩
      go_simp
      with_reducible rfl
    rotate_left
    · simp only [Act.put, List.setIfInBounds_toArray, List.set_cons_zero, List.set_cons_succ, i64_w, i32_w]
      rfl
    refine one_ (i := 5) (N := some 54) #[true, true, true, true, true, true, true, false, false] rfl rfl (by kernel_rfl) (by decide) (fun K hK => ?_)
    refine goes_ Try.func51 (by kernel_rfl) rfl #[ptr b, .int .i64 (xs.length : Int)] (by rfl) rfl rfl (by simp only [List.map_toArray, List.map_cons, List.map_nil]; rfl) ?_
    with_reducible refine (HAT.out).mono ?_
    rintro e w5 ⟨rfl, rfl⟩
    refine ⟨_, rfl, ?_⟩
    refine hK.out _ _ ⟨c1, x0c, x1c⟩ (fun hHeld => ?_)
    clear hK K
    refine norm_ (a' := ?_) ?_ ?_
    rotate_left
    · show Act.put _ (some 54) _ = _
      simp only [Act.put, List.setIfInBounds_toArray, List.set_cons_zero, List.set_cons_succ, i64_w, i32_w]
      rfl
    refine pure_ (i := 7) (N := some 56) (v := ?_) (a' := ?_) #[true, true, true, true, true, true, true, true, false] rfl rfl (by kernel_rfl) (fun _ _ _ h => h) (Or.inl ⟨by rfl, ?_⟩) ?_ ?_
    rotate_left
    · intro w'
      go_simp
      with_reducible rfl
    rotate_left
    · simp only [Act.put, List.setIfInBounds_toArray, List.set_cons_zero, List.set_cons_succ, i64_w, i32_w]
      rfl
    refine last_ (i := 8) (N := none) #[true, true, true, true, true, true, true, true, true] rfl rfl (by kernel_rfl) (by decide) (fun K hK => ?_)
    refine skip_ (w1 := ?_) (by rfl) rfl ?_ ?_
    rotate_left
    · go_simp
      rfl
    refine hK.out _ _ ?_
    clear hK K
    refine done_ (by kernel_rfl) ?_

    generalize ((w2.setCell ⟨b, k * 2, none⟩ (.int .i64 x0)).setCell ⟨b, k * 2 + 1, none⟩ (.int .i64 x1)).drew.drew = w5 at HA4 HB4 ⊢
    clear c1 x0c x1c p1 p2 z1 z2 HAT HA2 HB2
    obtain ⟨u1, u2, -, -⟩ := HA4.out.box_cell (List.mem_cons_self ..)
    have p3 : w5.cell? ⟨b, 65, none⟩ = some (.int .i64 (xs.length : Int)) := by
      have hk := HK.out
      rw [u1, set_other (by omega), set_other (by omega)]
      exact HRI.out.n
    have z3 := u2 65
    obtain ⟨hA5, hB5⟩ := HA4.out.box_set 65 (.int .i64 ((xs.length + 1 : Nat) : Int))
    have HA5 := Aside0.mk hA5
    have HB5 := Aside0.mk (HB4.out.trans hB5)
    clear u1 u2 hA5 hB5 HA4 HB4
    go_wp2_with fail
    go_ret
    obtain ⟨rfl, rfl⟩ := F0.out HLB0.out H32.out
    exact ⟨rfl, ring_shut HA5.out.swap.tail HPU.out, HB5.out⟩
  · have hy := last_some hp
    obtain ⟨cy, -⟩ := cel (xs.length - 1) (by omega)
    have hlb : lb = decide (x0 < (xs[xs.length - 1]'(by omega)).f0) := by
      rw [← HLB.out]
      unfold lateB
      rw [hy]
    have HAT := Aside0.mk (rat_calls HA1.out.drew (List.mem_cons_self ..) HRI.out (xs.length - 1) (by omega))
    have e4 : wrap64 ((xs.length : Int) - 1) = ((xs.length - 1 : Nat) : Int) := (w64 (x := (xs.length : Int) - 1) (by omega) (by omega)).trans (by omega)
    have d5 : decide ((xs.length : Int) > 0) = true := decide_eq_true (by omega)
    have d6 : (0 : Int) < (xs.length : Int) := by omega
    generalize (xs[xs.length - 1]'(by omega)).f0 = y at cy hlb
    generalize xs.length - 1 = m at cy HAT e4
    rw [← e4] at HAT
    cases lb
    · have hlb2 : decide (x0 < y) = false := hlb.symm
      have hlb3 : ¬ x0 < y := of_decide_eq_false hlb2
      have HLB0 : Aside0 (false = false) := ⟨rfl⟩
      clear hy cel hlb
      go_wp2_with fail
      refine start_ (n := 21) (S := fun w' => w'.cell? ⟨b, 65, none⟩ = some (.int .i64 (xs.length : Int)) ∧ w'.cell? ⟨bx, 0, none⟩ = some (.int .i64 x0) ∧ w'.cell? ⟨b, (f + m) % 32 * 2, none⟩ = some (.int .i64 y)) (ds := []) #[false, false, false, false, false, false, false, false, false, false, false, false, false, false, false, false, false, false, false, false, false] (by kernel_rfl) rfl rfl ⟨c1, x0c, cy⟩ (fun hHeld => ?_)
      refine pure_ (i := 0) (N := some 23) (v := ?_) (a' := ?_) #[true, false, false, false, false, false, false, false, false, false, false, false, false, false, false, false, false, false, false, false, false] rfl rfl (by kernel_rfl) (fun _ _ _ h => h) (Or.inl ⟨by rfl, ?_⟩) ?_ ?_
      rotate_left
      · intro w'
        go_simp
        with_reducible rfl
      rotate_left
      · simp only [Act.put, List.setIfInBounds_toArray, List.set_cons_zero, List.set_cons_succ, i64_w, i32_w]
        rfl
      refine pure_ (i := 1) (N := some 24) (v := ?_) (a' := ?_) #[true, true, false, false, false, false, false, false, false, false, false, false, false, false, false, false, false, false, false, false, false] rfl rfl (by kernel_rfl) (fun _ _ _ h => h) (Or.inl ⟨by rfl, ?_⟩) ?_ ?_
      rotate_left
      · intro w'
        go_simp
        with_reducible rfl
      rotate_left
      · simp only [Act.put, List.setIfInBounds_toArray, List.set_cons_zero, List.set_cons_succ, i64_w, i32_w]
        rfl
      refine pure_ (i := 2) (N := some 25) (v := ?_) (a' := ?_) #[true, true, true, false, false, false, false, false, false, false, false, false, false, false, false, false, false, false, false, false, false] rfl rfl (by kernel_rfl) (fun _ _ _ h => h) (Or.inl ⟨by rfl, ?_⟩) ?_ ?_
      rotate_left
      · intro w'
        go_simp
        with_reducible rfl
      rotate_left
      · simp only [Act.put, List.setIfInBounds_toArray, List.set_cons_zero, List.set_cons_succ, i64_w, i32_w]
        rfl
      refine take_ (i := 3) (N := some 26) (v := ?_) (a' := ?_) #[true, true, true, true, false, false, false, false, false, false, false, false, false, false, false, false, false, false, false, false, false] rfl rfl (by kernel_rfl) (fun _ _ _ h => h) (Or.inl ⟨by rfl, ?_⟩) hHeld ?_ ?_
      rotate_left
      · rintro w' ⟨s0, s1, s2⟩
        go_simp
        with_reducible rfl
      rotate_left
      · simp only [Act.put, List.setIfInBounds_toArray, List.set_cons_zero, List.set_cons_succ, i64_w, i32_w]
        rfl
      refine pure_ (i := 4) (N := some 27) (v := ?_) (a' := ?_) #[true, true, true, true, true, false, false, false, false, false, false, false, false, false, false, false, false, false, false, false, false] rfl rfl (by kernel_rfl) (fun _ _ _ h => h) (Or.inl ⟨by rfl, ?_⟩) ?_ ?_
      rotate_left
      · intro w'
        go_simp
        with_reducible rfl
      rotate_left
      · simp only [Act.put, List.setIfInBounds_toArray, List.set_cons_zero, List.set_cons_succ, i64_w, i32_w]
        rfl
      refine pure_ (i := 5) (N := some 28) (v := ?_) (a' := ?_) #[true, true, true, true, true, true, false, false, false, false, false, false, false, false, false, false, false, false, false, false, false] rfl rfl (by kernel_rfl) (fun _ _ _ h => h) (Or.inl ⟨by rfl, ?_⟩) ?_ ?_
      rotate_left
      · intro w'
        go_simp
        with_reducible rfl
      rotate_left
      · simp only [Act.put, List.setIfInBounds_toArray, List.set_cons_zero, List.set_cons_succ, i64_w, i32_w]
        rfl
      refine pure_ (i := 6) (N := some 29) (v := ?_) (a' := ?_) #[true, true, true, true, true, true, true, false, false, false, false, false, false, false, false, false, false, false, false, false, false] rfl rfl (by kernel_rfl) (fun _ _ _ h => h) (Or.inl ⟨by rfl, ?_⟩) ?_ ?_
      rotate_left
      · intro w'
        go_simp
        with_reducible rfl
      rotate_left
      · simp only [Act.put, List.setIfInBounds_toArray, List.set_cons_zero, List.set_cons_succ, i64_w, i32_w]
        rfl
      refine pure_ (i := 8) (N := some 31) (v := ?_) (a' := ?_) #[true, true, true, true, true, true, true, false, true, false, false, false, false, false, false, false, false, false, false, false, false] rfl rfl (by kernel_rfl) (fun _ _ _ h => h) (Or.inl ⟨by rfl, ?_⟩) ?_ ?_
      rotate_left
      · intro w'
        go_simp
        with_reducible rfl
      rotate_left
      · simp only [Act.put, List.setIfInBounds_toArray, List.set_cons_zero, List.set_cons_succ, i64_w, i32_w]
        rfl
      refine pure_ (i := 9) (N := some 32) (v := ?_) (a' := ?_) #[true, true, true, true, true, true, true, false, true, true, false, false, false, false, false, false, false, false, false, false, false] rfl rfl (by kernel_rfl) (fun _ _ _ h => h) (Or.inl ⟨by rfl, ?_⟩) ?_ ?_
      rotate_left
      · intro w'
        go_simp
        with_reducible rfl
      rotate_left
      · simp only [Act.put, List.setIfInBounds_toArray, List.set_cons_zero, List.set_cons_succ, i64_w, i32_w]
        rfl
      refine pure_ (i := 10) (N := some 33) (v := ?_) (a' := ?_) #[true, true, true, true, true, true, true, false, true, true, true, false, false, false, false, false, false, false, false, false, false] rfl rfl (by kernel_rfl) (fun _ _ _ h => h) (Or.inl ⟨by rfl, ?_⟩) ?_ ?_
      rotate_left
      · intro w'
        go_simp
        with_reducible rfl
      rotate_left
      · simp only [Act.put, List.setIfInBounds_toArray, List.set_cons_zero, List.set_cons_succ, i64_w, i32_w]
        rfl
      refine pure_ (i := 11) (N := some 34) (v := ?_) (a' := ?_) #[true, true, true, true, true, true, true, false, true, true, true, true, false, false, false, false, false, false, false, false, false] rfl rfl (by kernel_rfl) (fun _ _ _ h => h) (Or.inl ⟨by rfl, ?_⟩) ?_ ?_
      rotate_left
      · intro w'
        go_simp
        with_reducible rfl
      rotate_left
      · simp only [Act.put, List.setIfInBounds_toArray, List.set_cons_zero, List.set_cons_succ, i64_w, i32_w]
        rfl
      refine take_ (i := 7) (N := some 30) (v := ?_) (a' := ?_) #[true, true, true, true, true, true, true, true, true, true, true, true, false, false, false, false, false, false, false, false, false] rfl rfl (by kernel_rfl) (fun _ _ _ h => h) (Or.inl ⟨by rfl, ?_⟩) hHeld ?_ ?_
      rotate_left
      · rintro w' ⟨s0, s1, s2⟩
        go_simp
        with_reducible rfl
      rotate_left
      · simp only [Act.put, List.setIfInBounds_toArray, List.set_cons_zero, List.set_cons_succ, i64_w, i32_w]
        rfl
      refine take_ (i := 12) (N := some 35) (v := ?_) (a' := ?_) #[true, true, true, true, true, true, true, true, true, true, true, true, true, false, false, false, false, false, false, false, false] rfl rfl (by kernel_rfl) (fun _ _ _ h => h) (Or.inl ⟨by rfl, ?_⟩) hHeld ?_ ?_
      rotate_left
      · rintro w' ⟨s0, s1, s2⟩
        go_simp
        with_reducible rfl
      rotate_left
      · simp only [Act.put, List.setIfInBounds_toArray, List.set_cons_zero, List.set_cons_succ, i64_w, i32_w]
        rfl
      refine pure_ (i := 13) (N := some 36) (v := ?_) (a' := ?_) #[true, true, true, true, true, true, true, true, true, true, true, true, true, true, false, false, false, false, false, false, false] rfl rfl (by kernel_rfl) (fun _ _ _ h => h) (Or.inl ⟨by rfl, ?_⟩) ?_ ?_
      rotate_left
      · intro w'
        go_simp
        with_reducible rfl
      rotate_left
      · simp only [Act.put, List.setIfInBounds_toArray, List.set_cons_zero, List.set_cons_succ, i64_w, i32_w]
        rfl
      refine one_ (i := 14) (N := some 37) #[true, true, true, true, true, true, true, true, true, true, true, true, true, true, true, false, false, false, false, false, false] rfl rfl (by kernel_rfl) (by decide) (fun K hK => ?_)
      refine goes_ Try.func51 (by kernel_rfl) rfl #[ptr b, .int .i64 (wrap64 ((xs.length : Int) - 1))] (by rfl) rfl rfl (by simp only [List.map_toArray, List.map_cons, List.map_nil]; rfl) ?_
      with_reducible refine (HAT.out).mono ?_
      rintro e w5 ⟨rfl, rfl⟩
      refine ⟨_, rfl, ?_⟩
      refine hK.out _ _ ⟨c1, x0c, cy⟩ (fun hHeld => ?_)
      clear hK K
      refine norm_ (a' := ?_) ?_ ?_
      rotate_left
      · show Act.put _ (some 37) _ = _
        simp only [Act.put, List.setIfInBounds_toArray, List.set_cons_zero, List.set_cons_succ, i64_w, i32_w]
        rfl
      refine pure_ (i := 15) (N := some 38) (v := ?_) (a' := ?_) #[true, true, true, true, true, true, true, true, true, true, true, true, true, true, true, true, false, false, false, false, false] rfl rfl (by kernel_rfl) (fun _ _ _ h => h) (Or.inl ⟨by rfl, ?_⟩) ?_ ?_
      rotate_left
      · intro w'
        go_simp
        with_reducible rfl
      rotate_left
      · simp only [Act.put, List.setIfInBounds_toArray, List.set_cons_zero, List.set_cons_succ, i64_w, i32_w]
        rfl
      refine pure_ (i := 16) (N := some 39) (v := ?_) (a' := ?_) #[true, true, true, true, true, true, true, true, true, true, true, true, true, true, true, true, true, false, false, false, false] rfl rfl (by kernel_rfl) (fun _ _ _ h => h) (Or.inl ⟨by rfl, ?_⟩) ?_ ?_
      rotate_left
      · intro w'
        go_simp
        with_reducible rfl
      rotate_left
      · simp only [Act.put, List.setIfInBounds_toArray, List.set_cons_zero, List.set_cons_succ, i64_w, i32_w]
        rfl
      refine take_ (i := 17) (N := some 40) (v := ?_) (a' := ?_) #[true, true, true, true, true, true, true, true, true, true, true, true, true, true, true, true, true, true, false, false, false] rfl rfl (by kernel_rfl) (fun _ _ _ h => h) (Or.inl ⟨by rfl, ?_⟩) hHeld ?_ ?_
      rotate_left
      · rintro w' ⟨s0, s1, s2⟩
        go_simp
        with_reducible rfl
      rotate_left
      · simp only [Act.put, List.setIfInBounds_toArray, List.set_cons_zero, List.set_cons_succ, i64_w, i32_w]
        rfl
      refine pure_ (i := 18) (N := some 41) (v := ?_) (a' := ?_) #[true, true, true, true, true, true, true, true, true, true, true, true, true, true, true, true, true, true, true, false, false] rfl rfl (by kernel_rfl) (fun _ _ _ h => h) (Or.inl ⟨by rfl, ?_⟩) ?_ ?_
      rotate_left
      · intro w'
        go_simp
        with_reducible rfl
      rotate_left
      · simp only [Act.put, List.setIfInBounds_toArray, List.set_cons_zero, List.set_cons_succ, i64_w, i32_w]
        rfl
      refine pure_ (i := 19) (N := some 42) (v := ?_) (a' := ?_) #[true, true, true, true, true, true, true, true, true, true, true, true, true, true, true, true, true, true, true, true, false] rfl rfl (by kernel_rfl) (fun _ _ _ h => h) (Or.inl ⟨by rfl, ?_⟩) ?_ ?_
      rotate_left
      · intro w'
        go_simp
        with_reducible rfl
      rotate_left
      · simp only [Act.put, List.setIfInBounds_toArray, List.set_cons_zero, List.set_cons_succ, i64_w, i32_w]
        rfl
      refine pure_ (i := 20) (N := some 22) (v := ?_) (a' := ?_) #[true, true, true, true, true, true, true, true, true, true, true, true, true, true, true, true, true, true, true, true, true] rfl rfl (by kernel_rfl) (fun _ _ _ h => h) (Or.inl ⟨by rfl, ?_⟩) ?_ ?_
      rotate_left
      · intro w'
        go_simp
        with_reducible rfl
      rotate_left
      · simp only [Act.put, List.setIfInBounds_toArray, List.set_cons_zero, List.set_cons_succ, i64_w, i32_w]
        rfl
      refine done_ (by kernel_rfl) ?_

      have HA2 := Aside0.mk HA1.out.drew.drew
      have HB2 := Aside0.mk (bl_drew (bl_drew HB1.out))
      clear c1 x0c x1c HA1 HB1 cy HAT e4 hlb2 hlb3 d5 d6
      generalize w1.drew.drew = w2 at HA2 HB2 ⊢
      obtain ⟨-, c1, -, cf, -, cex⟩ := ring_cells HA2.out (List.mem_cons_self ..) HRI.out
      obtain ⟨bx2, -, -, -⟩ := HA2.out.box_cell (b := bx) (cs := #[.int .i64 x0, .int .i64 x1]) (t := 26) (by simp)
      have x0c : w2.cell? ⟨bx, 0, none⟩ = some (.int .i64 x0) := bx2 0
      have x1c : w2.cell? ⟨bx, 1, none⟩ = some (.int .i64 x1) := bx2 1
      clear bx2
      by_cases h32 : xs.length = 32
      · have d3 : ((xs.length : Int) == 32) = true := beq_iff_eq.2 (by omega)
        have H32 := Aside0.mk h32
        clear h32 cex cf
        go_wp2_with fail
        go_ret
        obtain ⟨rfl, rfl⟩ := F4.out HLB0.out H32.out
        exact ⟨rfl, ring_shut HA2.out.swap.tail HRI.out, HB2.out⟩
      have d3 : ((xs.length : Int) == 32) = false := beq_eq_false_iff_ne.2 (by omega)
      have d4 : ¬ (xs.length : Int) = 32 := by omega
      have HAT := Aside0.mk (rat_calls HA2.out.drew (List.mem_cons_self ..) HRI.out xs.length (by omega))
      have HPU := Aside0.mk (HRI.out.push (by omega) ⟨x0, x1⟩)
      have e5 : wrap64 ((xs.length : Int) + 1) = ((xs.length + 1 : Nat) : Int) := (w64 (x := (xs.length : Int) + 1) (by omega) (by omega)).trans (by omega)
      have hk : (f + xs.length) % 32 < 32 := Nat.mod_lt _ (by decide)
      have H32 := Aside0.mk h32
      dsimp only at HPU
      generalize (f + xs.length) % 32 = k at HAT HPU hk
      obtain ⟨hA3, hB3⟩ := HA2.out.box_set (k * 2) (.int .i64 x0)
      obtain ⟨hA4, hB4⟩ := hA3.box_set (k * 2 + 1) (.int .i64 x1)
      obtain ⟨u1, u2, -, -⟩ := HA2.out.box_cell (List.mem_cons_self ..)
      have s67 := HRI.out.size
      have p1 := (u1 (k * 2)).trans (Array.getElem?_eq_getElem (by omega))
      have p2 := (u1 (k * 2 + 1)).trans (Array.getElem?_eq_getElem (by omega))
      have z1 := u2 (k * 2)
      have z2 := u2 (k * 2 + 1)
      generalize cs[k * 2]'_ = v1 at p1
      generalize cs[k * 2 + 1]'_ = v2 at p2
      have HA4 := Aside0.mk hA4.drew.drew
      have HB4 := Aside0.mk (bl_drew (bl_drew ((HB2.out.trans hB3).trans hB4)))
      have HK := Aside0.mk hk
      clear hA3 hB3 hA4 hB4 u1 u2 s67 cf cex h32 hk
      go_wp2_with fail
      refine start_ (n := 9) (S := fun w' => w'.cell? ⟨b, 65, none⟩ = some (.int .i64 (xs.length : Int)) ∧ w'.cell? ⟨bx, 0, none⟩ = some (.int .i64 x0) ∧ w'.cell? ⟨bx, 1, none⟩ = some (.int .i64 x1)) (ds := [8]) #[false, false, false, false, false, false, false, false, false] (by kernel_rfl) rfl rfl ⟨c1, x0c, x1c⟩ (fun hHeld => ?_)
      refine pure_ (i := 0) (N := some 49) (v := ?_) (a' := ?_) #[true, false, false, false, false, false, false, false, false] rfl rfl (by kernel_rfl) (fun _ _ _ h => h) (Or.inl ⟨by rfl, ?_⟩) ?_ ?_
      rotate_left
      · intro w'
        go_simp
        with_reducible rfl
      rotate_left
      · simp only [Act.put, List.setIfInBounds_toArray, List.set_cons_zero, List.set_cons_succ, i64_w, i32_w]
        rfl
      refine pure_ (i := 1) (N := some 50) (v := ?_) (a' := ?_) #[true, true, false, false, false, false, false, false, false] rfl rfl (by kernel_rfl) (fun _ _ _ h => h) (Or.inl ⟨by rfl, ?_⟩) ?_ ?_
      rotate_left
      · intro w'
        go_simp
        with_reducible rfl
      rotate_left
      · simp only [Act.put, List.setIfInBounds_toArray, List.set_cons_zero, List.set_cons_succ, i64_w, i32_w]
        rfl
      refine pure_ (i := 2) (N := some 51) (v := ?_) (a' := ?_) #[true, true, true, false, false, false, false, false, false] rfl rfl (by kernel_rfl) (fun _ _ _ h => h) (Or.inl ⟨by rfl, ?_⟩) ?_ ?_
      rotate_left
      · intro w'
        go_simp
        with_reducible rfl
      rotate_left
      · simp only [Act.put, List.setIfInBounds_toArray, List.set_cons_zero, List.set_cons_succ, i64_w, i32_w]
        rfl
      refine pure_ (i := 3) (N := some 52) (v := ?_) (a' := ?_) #[true, true, true, true, false, false, false, false, false] rfl rfl (by kernel_rfl) (fun _ _ _ h => h) (Or.inl ⟨by rfl, ?_⟩) ?_ ?_
      rotate_left
      · intro w'
        go_simp
        with_reducible rfl
      rotate_left
      · simp only [Act.put, List.setIfInBounds_toArray, List.set_cons_zero, List.set_cons_succ, i64_w, i32_w]
        rfl
      refine take_ (i := 4) (N := some 53) (v := ?_) (a' := ?_) #[true, true, true, true, true, false, false, false, false] rfl rfl (by kernel_rfl) (fun _ _ _ h => h) (Or.inl ⟨by rfl, ?_⟩) hHeld ?_ ?_
      rotate_left
      · rintro w' ⟨s0, s1, s2⟩
        go_simp
        with_reducible rfl
      rotate_left
      · simp only [Act.put, List.setIfInBounds_toArray, List.set_cons_zero, List.set_cons_succ, i64_w, i32_w]
        rfl
      refine take_ (i := 6) (N := some 55) (v := ?_) (a' := ?_) #[true, true, true, true, true, false, true, false, false] rfl rfl (by kernel_rfl) (fun _ _ _ h => h) (Or.inl ⟨by rfl, ?_⟩) hHeld ?_ ?_
      rotate_left
      · rintro w' ⟨s0, s1, s2⟩
        go_simp
        with_reducible rfl
      rotate_left
      · simp only [Act.put, List.setIfInBounds_toArray, List.set_cons_zero, List.set_cons_succ, i64_w, i32_w]
        rfl
      refine one_ (i := 5) (N := some 54) #[true, true, true, true, true, true, true, false, false] rfl rfl (by kernel_rfl) (by decide) (fun K hK => ?_)
      refine goes_ Try.func51 (by kernel_rfl) rfl #[ptr b, .int .i64 (xs.length : Int)] (by rfl) rfl rfl (by simp only [List.map_toArray, List.map_cons, List.map_nil]; rfl) ?_
      with_reducible refine (HAT.out).mono ?_
      rintro e w5 ⟨rfl, rfl⟩
      refine ⟨_, rfl, ?_⟩
      refine hK.out _ _ ⟨c1, x0c, x1c⟩ (fun hHeld => ?_)
      clear hK K
      refine norm_ (a' := ?_) ?_ ?_
      rotate_left
      · show Act.put _ (some 54) _ = _
        simp only [Act.put, List.setIfInBounds_toArray, List.set_cons_zero, List.set_cons_succ, i64_w, i32_w]
        rfl
      refine pure_ (i := 7) (N := some 56) (v := ?_) (a' := ?_) #[true, true, true, true, true, true, true, true, false] rfl rfl (by kernel_rfl) (fun _ _ _ h => h) (Or.inl ⟨by rfl, ?_⟩) ?_ ?_
      rotate_left
      · intro w'
        go_simp
        with_reducible rfl
      rotate_left
      · simp only [Act.put, List.setIfInBounds_toArray, List.set_cons_zero, List.set_cons_succ, i64_w, i32_w]
        rfl
      refine last_ (i := 8) (N := none) #[true, true, true, true, true, true, true, true, true] rfl rfl (by kernel_rfl) (by decide) (fun K hK => ?_)
      refine skip_ (w1 := ?_) (by rfl) rfl ?_ ?_
      rotate_left
      · go_simp
        rfl
      refine hK.out _ _ ?_
      clear hK K
      refine done_ (by kernel_rfl) ?_

      generalize ((w2.setCell ⟨b, k * 2, none⟩ (.int .i64 x0)).setCell ⟨b, k * 2 + 1, none⟩ (.int .i64 x1)).drew.drew = w5 at HA4 HB4 ⊢
      clear c1 x0c x1c p1 p2 z1 z2 HAT HA2 HB2
      obtain ⟨u1, u2, -, -⟩ := HA4.out.box_cell (List.mem_cons_self ..)
      have p3 : w5.cell? ⟨b, 65, none⟩ = some (.int .i64 (xs.length : Int)) := by
        have hk := HK.out
        rw [u1, set_other (by omega), set_other (by omega)]
        exact HRI.out.n
      have z3 := u2 65
      obtain ⟨hA5, hB5⟩ := HA4.out.box_set 65 (.int .i64 ((xs.length + 1 : Nat) : Int))
      have HA5 := Aside0.mk hA5
      have HB5 := Aside0.mk (HB4.out.trans hB5)
      clear u1 u2 hA5 hB5 HA4 HB4
      go_wp2_with fail
      go_ret
      obtain ⟨rfl, rfl⟩ := F0.out HLB0.out H32.out
      exact ⟨rfl, ring_shut HA5.out.swap.tail HPU.out, HB5.out⟩
    · have hlb2 : decide (x0 < y) = true := hlb.symm
      have hlb3 : x0 < y := of_decide_eq_true hlb2
      clear hy cel hlb
      go_wp2_with fail
      refine start_ (n := 21) (S := fun w' => w'.cell? ⟨b, 65, none⟩ = some (.int .i64 (xs.length : Int)) ∧ w'.cell? ⟨bx, 0, none⟩ = some (.int .i64 x0) ∧ w'.cell? ⟨b, (f + m) % 32 * 2, none⟩ = some (.int .i64 y)) (ds := []) #[false, false, false, false, false, false, false, false, false, false, false, false, false, false, false, false, false, false, false, false, false] (by kernel_rfl) rfl rfl ⟨c1, x0c, cy⟩ (fun hHeld => ?_)
      refine pure_ (i := 0) (N := some 23) (v := ?_) (a' := ?_) #[true, false, false, false, false, false, false, false, false, false, false, false, false, false, false, false, false, false, false, false, false] rfl rfl (by kernel_rfl) (fun _ _ _ h => h) (Or.inl ⟨by rfl, ?_⟩) ?_ ?_
      rotate_left
      · intro w'
        go_simp
        with_reducible rfl
      rotate_left
      · simp only [Act.put, List.setIfInBounds_toArray, List.set_cons_zero, List.set_cons_succ, i64_w, i32_w]
        rfl
      refine pure_ (i := 1) (N := some 24) (v := ?_) (a' := ?_) #[true, true, false, false, false, false, false, false, false, false, false, false, false, false, false, false, false, false, false, false, false] rfl rfl (by kernel_rfl) (fun _ _ _ h => h) (Or.inl ⟨by rfl, ?_⟩) ?_ ?_
      rotate_left
      · intro w'
        go_simp
        with_reducible rfl
      rotate_left
      · simp only [Act.put, List.setIfInBounds_toArray, List.set_cons_zero, List.set_cons_succ, i64_w, i32_w]
        rfl
      refine pure_ (i := 2) (N := some 25) (v := ?_) (a' := ?_) #[true, true, true, false, false, false, false, false, false, false, false, false, false, false, false, false, false, false, false, false, false] rfl rfl (by kernel_rfl) (fun _ _ _ h => h) (Or.inl ⟨by rfl, ?_⟩) ?_ ?_
      rotate_left
      · intro w'
        go_simp
        with_reducible rfl
      rotate_left
      · simp only [Act.put, List.setIfInBounds_toArray, List.set_cons_zero, List.set_cons_succ, i64_w, i32_w]
        rfl
      refine take_ (i := 3) (N := some 26) (v := ?_) (a' := ?_) #[true, true, true, true, false, false, false, false, false, false, false, false, false, false, false, false, false, false, false, false, false] rfl rfl (by kernel_rfl) (fun _ _ _ h => h) (Or.inl ⟨by rfl, ?_⟩) hHeld ?_ ?_
      rotate_left
      · rintro w' ⟨s0, s1, s2⟩
        go_simp
        with_reducible rfl
      rotate_left
      · simp only [Act.put, List.setIfInBounds_toArray, List.set_cons_zero, List.set_cons_succ, i64_w, i32_w]
        rfl
      refine pure_ (i := 4) (N := some 27) (v := ?_) (a' := ?_) #[true, true, true, true, true, false, false, false, false, false, false, false, false, false, false, false, false, false, false, false, false] rfl rfl (by kernel_rfl) (fun _ _ _ h => h) (Or.inl ⟨by rfl, ?_⟩) ?_ ?_
      rotate_left
      · intro w'
        go_simp
        with_reducible rfl
      rotate_left
      · simp only [Act.put, List.setIfInBounds_toArray, List.set_cons_zero, List.set_cons_succ, i64_w, i32_w]
        rfl
      refine pure_ (i := 5) (N := some 28) (v := ?_) (a' := ?_) #[true, true, true, true, true, true, false, false, false, false, false, false, false, false, false, false, false, false, false, false, false] rfl rfl (by kernel_rfl) (fun _ _ _ h => h) (Or.inl ⟨by rfl, ?_⟩) ?_ ?_
      rotate_left
      · intro w'
        go_simp
        with_reducible rfl
      rotate_left
      · simp only [Act.put, List.setIfInBounds_toArray, List.set_cons_zero, List.set_cons_succ, i64_w, i32_w]
        rfl
      refine pure_ (i := 6) (N := some 29) (v := ?_) (a' := ?_) #[true, true, true, true, true, true, true, false, false, false, false, false, false, false, false, false, false, false, false, false, false] rfl rfl (by kernel_rfl) (fun _ _ _ h => h) (Or.inl ⟨by rfl, ?_⟩) ?_ ?_
      rotate_left
      · intro w'
        go_simp
        with_reducible rfl
      rotate_left
      · simp only [Act.put, List.setIfInBounds_toArray, List.set_cons_zero, List.set_cons_succ, i64_w, i32_w]
        rfl
      refine pure_ (i := 8) (N := some 31) (v := ?_) (a' := ?_) #[true, true, true, true, true, true, true, false, true, false, false, false, false, false, false, false, false, false, false, false, false] rfl rfl (by kernel_rfl) (fun _ _ _ h => h) (Or.inl ⟨by rfl, ?_⟩) ?_ ?_
      rotate_left
      · intro w'
        go_simp
        with_reducible rfl
      rotate_left
      · simp only [Act.put, List.setIfInBounds_toArray, List.set_cons_zero, List.set_cons_succ, i64_w, i32_w]
        rfl
      refine pure_ (i := 9) (N := some 32) (v := ?_) (a' := ?_) #[true, true, true, true, true, true, true, false, true, true, false, false, false, false, false, false, false, false, false, false, false] rfl rfl (by kernel_rfl) (fun _ _ _ h => h) (Or.inl ⟨by rfl, ?_⟩) ?_ ?_
      rotate_left
      · intro w'
        go_simp
        with_reducible rfl
      rotate_left
      · simp only [Act.put, List.setIfInBounds_toArray, List.set_cons_zero, List.set_cons_succ, i64_w, i32_w]
        rfl
      refine pure_ (i := 10) (N := some 33) (v := ?_) (a' := ?_) #[true, true, true, true, true, true, true, false, true, true, true, false, false, false, false, false, false, false, false, false, false] rfl rfl (by kernel_rfl) (fun _ _ _ h => h) (Or.inl ⟨by rfl, ?_⟩) ?_ ?_
      rotate_left
      · intro w'
        go_simp
        with_reducible rfl
      rotate_left
      · simp only [Act.put, List.setIfInBounds_toArray, List.set_cons_zero, List.set_cons_succ, i64_w, i32_w]
        rfl
      refine pure_ (i := 11) (N := some 34) (v := ?_) (a' := ?_) #[true, true, true, true, true, true, true, false, true, true, true, true, false, false, false, false, false, false, false, false, false] rfl rfl (by kernel_rfl) (fun _ _ _ h => h) (Or.inl ⟨by rfl, ?_⟩) ?_ ?_
      rotate_left
      · intro w'
        go_simp
        with_reducible rfl
      rotate_left
      · simp only [Act.put, List.setIfInBounds_toArray, List.set_cons_zero, List.set_cons_succ, i64_w, i32_w]
        rfl
      refine take_ (i := 7) (N := some 30) (v := ?_) (a' := ?_) #[true, true, true, true, true, true, true, true, true, true, true, true, false, false, false, false, false, false, false, false, false] rfl rfl (by kernel_rfl) (fun _ _ _ h => h) (Or.inl ⟨by rfl, ?_⟩) hHeld ?_ ?_
      rotate_left
      · rintro w' ⟨s0, s1, s2⟩
        go_simp
        with_reducible rfl
      rotate_left
      · simp only [Act.put, List.setIfInBounds_toArray, List.set_cons_zero, List.set_cons_succ, i64_w, i32_w]
        rfl
      refine take_ (i := 12) (N := some 35) (v := ?_) (a' := ?_) #[true, true, true, true, true, true, true, true, true, true, true, true, true, false, false, false, false, false, false, false, false] rfl rfl (by kernel_rfl) (fun _ _ _ h => h) (Or.inl ⟨by rfl, ?_⟩) hHeld ?_ ?_
      rotate_left
      · rintro w' ⟨s0, s1, s2⟩
        go_simp
        with_reducible rfl
      rotate_left
      · simp only [Act.put, List.setIfInBounds_toArray, List.set_cons_zero, List.set_cons_succ, i64_w, i32_w]
        rfl
      refine pure_ (i := 13) (N := some 36) (v := ?_) (a' := ?_) #[true, true, true, true, true, true, true, true, true, true, true, true, true, true, false, false, false, false, false, false, false] rfl rfl (by kernel_rfl) (fun _ _ _ h => h) (Or.inl ⟨by rfl, ?_⟩) ?_ ?_
      rotate_left
      · intro w'
        go_simp
        with_reducible rfl
      rotate_left
      · simp only [Act.put, List.setIfInBounds_toArray, List.set_cons_zero, List.set_cons_succ, i64_w, i32_w]
        rfl
      refine one_ (i := 14) (N := some 37) #[true, true, true, true, true, true, true, true, true, true, true, true, true, true, true, false, false, false, false, false, false] rfl rfl (by kernel_rfl) (by decide) (fun K hK => ?_)
      refine goes_ Try.func51 (by kernel_rfl) rfl #[ptr b, .int .i64 (wrap64 ((xs.length : Int) - 1))] (by rfl) rfl rfl (by simp only [List.map_toArray, List.map_cons, List.map_nil]; rfl) ?_
      with_reducible refine (HAT.out).mono ?_
      rintro e w5 ⟨rfl, rfl⟩
      refine ⟨_, rfl, ?_⟩
      refine hK.out _ _ ⟨c1, x0c, cy⟩ (fun hHeld => ?_)
      clear hK K
      refine norm_ (a' := ?_) ?_ ?_
      rotate_left
      · show Act.put _ (some 37) _ = _
        simp only [Act.put, List.setIfInBounds_toArray, List.set_cons_zero, List.set_cons_succ, i64_w, i32_w]
        rfl
      refine pure_ (i := 15) (N := some 38) (v := ?_) (a' := ?_) #[true, true, true, true, true, true, true, true, true, true, true, true, true, true, true, true, false, false, false, false, false] rfl rfl (by kernel_rfl) (fun _ _ _ h => h) (Or.inl ⟨by rfl, ?_⟩) ?_ ?_
      rotate_left
      · intro w'
        go_simp
        with_reducible rfl
      rotate_left
      · simp only [Act.put, List.setIfInBounds_toArray, List.set_cons_zero, List.set_cons_succ, i64_w, i32_w]
        rfl
      refine pure_ (i := 16) (N := some 39) (v := ?_) (a' := ?_) #[true, true, true, true, true, true, true, true, true, true, true, true, true, true, true, true, true, false, false, false, false] rfl rfl (by kernel_rfl) (fun _ _ _ h => h) (Or.inl ⟨by rfl, ?_⟩) ?_ ?_
      rotate_left
      · intro w'
        go_simp
        with_reducible rfl
      rotate_left
      · simp only [Act.put, List.setIfInBounds_toArray, List.set_cons_zero, List.set_cons_succ, i64_w, i32_w]
        rfl
      refine take_ (i := 17) (N := some 40) (v := ?_) (a' := ?_) #[true, true, true, true, true, true, true, true, true, true, true, true, true, true, true, true, true, true, false, false, false] rfl rfl (by kernel_rfl) (fun _ _ _ h => h) (Or.inl ⟨by rfl, ?_⟩) hHeld ?_ ?_
      rotate_left
      · rintro w' ⟨s0, s1, s2⟩
        go_simp
        with_reducible rfl
      rotate_left
      · simp only [Act.put, List.setIfInBounds_toArray, List.set_cons_zero, List.set_cons_succ, i64_w, i32_w]
        rfl
      refine pure_ (i := 18) (N := some 41) (v := ?_) (a' := ?_) #[true, true, true, true, true, true, true, true, true, true, true, true, true, true, true, true, true, true, true, false, false] rfl rfl (by kernel_rfl) (fun _ _ _ h => h) (Or.inl ⟨by rfl, ?_⟩) ?_ ?_
      rotate_left
      · intro w'
        go_simp
        with_reducible rfl
      rotate_left
      · simp only [Act.put, List.setIfInBounds_toArray, List.set_cons_zero, List.set_cons_succ, i64_w, i32_w]
        rfl
      refine pure_ (i := 19) (N := some 42) (v := ?_) (a' := ?_) #[true, true, true, true, true, true, true, true, true, true, true, true, true, true, true, true, true, true, true, true, false] rfl rfl (by kernel_rfl) (fun _ _ _ h => h) (Or.inl ⟨by rfl, ?_⟩) ?_ ?_
      rotate_left
      · intro w'
        go_simp
        with_reducible rfl
      rotate_left
      · simp only [Act.put, List.setIfInBounds_toArray, List.set_cons_zero, List.set_cons_succ, i64_w, i32_w]
        rfl
      refine pure_ (i := 20) (N := some 22) (v := ?_) (a' := ?_) #[true, true, true, true, true, true, true, true, true, true, true, true, true, true, true, true, true, true, true, true, true] rfl rfl (by kernel_rfl) (fun _ _ _ h => h) (Or.inl ⟨by rfl, ?_⟩) ?_ ?_
      rotate_left
      · intro w'
        go_simp
        with_reducible rfl
      rotate_left
      · simp only [Act.put, List.setIfInBounds_toArray, List.set_cons_zero, List.set_cons_succ, i64_w, i32_w]
        rfl
      refine done_ (by kernel_rfl) ?_

      have HA2 := Aside0.mk HA1.out.drew.drew
      have HB2 := Aside0.mk (bl_drew (bl_drew HB1.out))
      clear c1 x0c x1c HA1 HB1 cy HAT e4 d5 d6
      generalize w1.drew.drew = w2 at HA2 HB2 ⊢
      go_wp2_with fail
      go_ret
      obtain ⟨rfl, rfl⟩ := F1.out (by first | rfl | trivial)
      exact ⟨rfl, ring_shut HA2.out.swap.tail HRI.out, HB2.out⟩
end Go.Proofs.Ytlhlaadnifkdhaa.Sr
namespace Go.Proofs.Ytlhlaadnifkdhaa.Sr
open Go.RowKit Go.Proofs.YtlhlaadnifkdhaaW.PrintWords Go.Proofs.YtlhlaadnifkdhaaW.PrintLast Go.Proofs.YtlhlaadnifkdhaaW.PrintMore Go.Proofs.Ytlhlaadnifkdhaa.Q Go.Proofs.Ytlhlaadnifkdhaa.Own
set_option linter.unusedVariables false
set_option linter.unusedSimpArgs false
attribute [local go_sem ↓] Go.wp_at_zero Go.wp_at_succ

/-- What is left behind an expiry: all from the first sample on that is later. -/
def expL (xs : List SM) (at_ : Int) : List SM := xs.dropWhile fun y => decide (y.f0 ≤ at_)
theorem exp_at : ∀ {xs : List SM} {at_ : Int} {k : Nat} (hk : k ≤ xs.length), (∀ j (hj : j < xs.length), j < k → xs[j].f0 ≤ at_) → (∀ (h : k < xs.length), ¬ xs[k].f0 ≤ at_) → expL xs at_ = xs.drop k
  | xs, at_, 0, _, _, h2 => by
    cases xs with
    | nil => rfl
    | cons y ys =>
      have := h2 (by simp)
      unfold expL
      rw [List.dropWhile_cons, if_neg (by simpa using this)]
      rfl
  | [], at_, k + 1, hk, _, _ => absurd hk (by simp)
  | y :: ys, at_, k + 1, hk, h1, h2 => by
    have h0 := h1 0 (by simp) (by omega)
    unfold expL
    rw [List.dropWhile_cons, if_pos (by simpa using h0)]
    exact exp_at (xs := ys) (by simpa using hk) (fun j hj hjk => h1 (j + 1) (by simp; omega) (by omega)) (fun h => h2 (by simp; omega))
theorem RingIs.drop1 {cs : Array Value} {f : Nat} {x : SM} {xs : List SM} (h : RingIs cs f (x :: xs)) : RingIs ((cs.setIfInBounds 64 (.int .i64 (((f + 1) % 32 : Nat) : Int))).setIfInBounds 65 (.int .i64 (xs.length : Int))) ((f + 1) % 32) xs := by
  have hs := h.size
  have hf := h.lt
  have hle := h.le
  rw [List.length_cons] at hle
  refine ⟨by simp [hs], ?_, ?_, ?_, Nat.mod_lt _ (by decide), by omega, fun j hj => ?_⟩
  · rw [set_other (by omega), set_same (by rw [hs]; omega)]
  · rw [set_same (by simp [hs])]
  · rw [set_other (by omega), set_other (by omega)]
    exact h.made
  · obtain ⟨q1, q2⟩ := h.el (j + 1) (by simp; omega)
    have e : ((f + 1) % 32 + j) % 32 = (f + (j + 1)) % 32 := by omega
    have hk : (f + (j + 1)) % 32 < 32 := Nat.mod_lt _ (by decide)
    rw [e, set_other (by omega), set_other (by omega), set_other (by omega), set_other (by omega)]
    exact ⟨q1, q2⟩
set_option maxHeartbeats 4000000 in
set_option maxRecDepth 100000 in
theorem rexp_calls {B : Nat} {w : World} {b : Nat} {xs : List SM} {Ts : List Th} (h : Has B w (ringT b xs :: Ts)) (at_ : Int) :
    Calls Try.prog 31 #[ptr b, .int .i64 at_] w fun e w' => e = .returned (.int .i64 ((xs.length - (expL xs at_).length : Nat) : Int)) ∧ Has B w' (ringT b (expL xs at_) :: Ts) ∧ Below B w w' := by
  obtain ⟨cs, f, hA, hr⟩ := ring_open h
  have HN := Aside0.mk (rnone_calls hA (List.mem_cons_self ..) hr)
  have HA := Aside0.mk hA
  have HR : Aside0 (RingIs cs f (xs.drop 0)) := ⟨hr⟩
  have HB : Aside0 (Below B w w) := ⟨Below.refl _ _⟩
  have hle := hr.le
  have HD0 : Aside0 (∀ j (hj : j < xs.length), j < 0 → xs[j].f0 ≤ at_) := ⟨fun j _ hj => absurd hj (Nat.not_lt_zero _)⟩
  clear h hA hr
  go_enter Try.func31, Try.ntmps31
  go_wp2_with fail
  refine HN.out.mono ?_
  rintro e w1 ⟨rfl, rfl⟩
  clear HN
  go_wp2_with fail
  go_loopw [5] (fun g wr => ∃ (k : Nat) (cs : Array Value) (f : Nat), g = .int .i64 k ∧ k ≤ xs.length ∧ Aside0 (∀ j (hj : j < xs.length), j < k → xs[j].f0 ≤ at_) ∧ Aside0 (RingIs cs f (xs.drop k)) ∧ Aside0 (Has B wr (boxR b cs :: Ts)) ∧ Aside0 (Below B w wr)) (fun g _ => xs.length - (intOf g).toNat)
  case atStart => exact ⟨0, cs, f, rfl, by omega, HD0, HR, HA, HB⟩
  case round =>
    clear HA HR HB HD0
    obtain ⟨k, cs, f, rfl, hk, HD, HR, HA, HB⟩ := hrel
    by_cases hlt : k < xs.length
    · have hdr := List.drop_eq_getElem_cons hlt
      have HR2 := HR.out
      rw [hdr] at HR2
      obtain ⟨-, c1, -, -, cel, -⟩ := ring_cells HA.out (List.mem_cons_self ..) HR2
      obtain ⟨c0, -⟩ := cel 0 (Nat.succ_pos _)
      rw [List.length_cons, List.length_drop] at c1
      obtain ⟨N, hN⟩ : ∃ N, xs.length - (k + 1) + 1 = N := ⟨_, rfl⟩
      obtain ⟨M, hM⟩ : ∃ M, xs.length - (k + 1) = M := ⟨_, rfl⟩
      rw [hN] at c1
      have d1 : decide ((N : Int) > 0) = true := decide_eq_true (by omega)
      have d2 : (0 : Int) < (N : Int) := by omega
      have d3 : 0 < N := by omega
      have e3 : wrap64 ((N : Int) - 1) = (M : Int) := (w64 (x := (N : Int) - 1) (by omega) (by omega)).trans (by omega)
      have e4 : wrap64 ((k : Int) + 1) = ((k + 1 : Nat) : Int) := (w64 (x := (k : Int) + 1) (by omega) (by omega)).trans (by omega)
      have HNN : Aside0 (xs.length - k = N ∧ xs.length - (k + 1) = M) := ⟨by omega, hM⟩
      have HAT := Aside0.mk (rat_calls HA.out (List.mem_cons_self ..) HR2 0 (by omega))
      have HXD : Aside0 ((xs.drop (k + 1)).length = xs.length - (k + 1)) := ⟨List.length_drop⟩
      have HY : Aside0 (∀ v, v = xs[k].f0 → xs[k].f0 = v) := ⟨fun v h => h.symm⟩
      have HDK : Aside0 (∀ (h : xs[k].f0 ≤ at_), ∀ j (hj : j < xs.length), j < k + 1 → xs[j].f0 ≤ at_) := ⟨fun h j hj hjk => by
        by_cases e : j = k
        · subst e; exact h
        · exact HD.out j hj (by omega)⟩
      have HEX : Aside0 (¬ xs[k].f0 ≤ at_ → expL xs at_ = xs.drop k) := ⟨fun h => exp_at hk HD.out (fun _ => h)⟩
      have HR3 := Aside0.mk HR2.drop1
      have HF := Aside0.mk HR2.lt
      have c0 : wr.cell? ⟨b, (f + 0) % 32 * 2, none⟩ = some (.int .i64 xs[k].f0) := c0
      obtain ⟨fi, hfi⟩ : ∃ n, f + 1 = n := ⟨_, rfl⟩
      rw [hfi] at HR3
      have e1 : wrap64 ((f : Int) + 1) = (fi : Int) := (w64 (x := (f : Int) + 1) (by have := HF.out; omega) (by have := HF.out; omega)).trans (by omega)
      have e2 : Int.tmod (fi : Int) 32 = ((fi % 32 : Nat) : Int) := by rw [Int.tmod_eq_emod_of_nonneg (by omega)]; omega
      generalize fi % 32 = g at e2 HR3
      rw [HXD.out, hM] at HR3
      clear HR2 cel hdr hN hM hfi
      generalize xs[k].f0 = y at c0 HDK HEX
      generalize (f + 0) % 32 * 2 = z at HAT c0
      go_wp2_with fail
      refine HAT.out.mono ?_
      rintro e w2 ⟨rfl, rfl⟩
      have c0' : wr.drew.cell? ⟨b, z, none⟩ = some (.int .i64 y) := c0
      have HA2 := Aside0.mk HA.out.drew
      have HB2 := Aside0.mk (bl_drew HB.out)
      clear HAT c0 c1 HA HB
      generalize wr.drew = w2 at HA2 HB2 c0' ⊢
      by_cases hy : y ≤ at_
      · have d4 : decide (y ≤ at_) = true := decide_eq_true hy
        have HD2 := Aside0.mk (HDK.out hy)
        obtain ⟨u1, u2, -, -⟩ := HA2.out.box_cell (List.mem_cons_self ..)
        have p1 : w2.cell? ⟨b, 64, none⟩ = some (.int .i64 (f : Int)) := (u1 64).trans HR.out.first
        have p2 : w2.cell? ⟨b, 65, none⟩ = some (.int .i64 (N : Int)) := (u1 65).trans (by rw [HR.out.n, List.length_drop, HNN.out.1])
        have z1 := u2 64
        have z2 := u2 65
        obtain ⟨hA3, hB3⟩ := HA2.out.box_set 64 (.int .i64 (g : Int))
        obtain ⟨hA4, hB4⟩ := hA3.box_set 65 (.int .i64 (M : Int))
        have HA4 := Aside0.mk hA4
        have HB4 := Aside0.mk ((HB2.out.trans hB3).trans hB4)
        have hlt' : k + 1 ≤ xs.length := hlt
        clear u1 u2 hA3 hB3 hA4 hB4 HA2 HB2 HDK HEX
        go_wp2_with fail
        go_roundw
        case rel => exact ⟨k + 1, _, g, by first | rfl | rw [e4], by omega, HD2, HR3, HA4, HB4⟩
        case measure => first | (simp [intOf]; omega) | (rw [e4]; simp [intOf]; omega)
      · have d4 : decide (y ≤ at_) = false := decide_eq_false hy
        have he := HEX.out (by omega)
        have HE := Aside0.mk he
        clear he hy HDK HEX
        go_wp2_with fail
        go_ret
        rw [HE.out]
        exact ⟨by rw [List.length_drop, show xs.length - (xs.length - k) = k from by omega]; rfl, ring_shut HA2.out HR.out, HB2.out⟩
    · obtain rfl : k = xs.length := by omega
      have hd : xs.drop xs.length = [] := List.drop_length
      have HE : Aside0 (expL xs at_ = []) := ⟨(exp_at (Nat.le_refl _) HD.out (fun h => absurd h (Nat.lt_irrefl _))).trans hd⟩
      rw [hd] at HR
      obtain ⟨-, c1, -, -, -, -⟩ := ring_cells HA.out (List.mem_cons_self ..) HR.out
      have c1 : wr.cell? ⟨b, 65, none⟩ = some (.int .i64 0) := c1
      clear hd
      go_wp2_with fail
      go_ret
      rw [HE.out]
      exact ⟨rfl, ring_shut HA.out HR.out, HB.out⟩
end Go.Proofs.Ytlhlaadnifkdhaa.Sr
namespace Go.Proofs.Ytlhlaadnifkdhaa.Sr
open Go.RowKit Go.Proofs.YtlhlaadnifkdhaaW.PrintWords Go.Proofs.YtlhlaadnifkdhaaW.PrintLast Go.Proofs.YtlhlaadnifkdhaaW.PrintMore Go.Proofs.Ytlhlaadnifkdhaa.Q Go.Proofs.Ytlhlaadnifkdhaa.Own
set_option linter.unusedVariables false
set_option linter.unusedSimpArgs false
attribute [local go_sem ↓] Go.wp_at_zero Go.wp_at_succ

abbrev ring0 : Array Value := #[.int .i64 0, .int .i64 0, .int .i64 0, .int .i64 0, .int .i64 0, .int .i64 0, .int .i64 0, .int .i64 0, .int .i64 0, .int .i64 0, .int .i64 0, .int .i64 0, .int .i64 0, .int .i64 0, .int .i64 0, .int .i64 0, .int .i64 0, .int .i64 0, .int .i64 0, .int .i64 0, .int .i64 0, .int .i64 0, .int .i64 0, .int .i64 0, .int .i64 0, .int .i64 0, .int .i64 0, .int .i64 0, .int .i64 0, .int .i64 0, .int .i64 0, .int .i64 0, .int .i64 0, .int .i64 0, .int .i64 0, .int .i64 0, .int .i64 0, .int .i64 0, .int .i64 0, .int .i64 0, .int .i64 0, .int .i64 0, .int .i64 0, .int .i64 0, .int .i64 0, .int .i64 0, .int .i64 0, .int .i64 0, .int .i64 0, .int .i64 0, .int .i64 0, .int .i64 0, .int .i64 0, .int .i64 0, .int .i64 0, .int .i64 0, .int .i64 0, .int .i64 0, .int .i64 0, .int .i64 0, .int .i64 0, .int .i64 0, .int .i64 0, .int .i64 0, .int .i64 0, .int .i64 0, .bool true]
theorem ring0_is : RingIs ring0 0 [] := ⟨by kernel_rfl, by kernel_rfl, by kernel_rfl, by kernel_rfl, by decide, by decide, fun j hj => absurd hj (Nat.not_lt_zero _)⟩
set_option maxHeartbeats 1000000 in
set_option maxRecDepth 100000 in
theorem rnew_calls {B : Nat} {w : World} {Ts : List Th} (h : Has B w Ts) : Calls Try.prog 29 #[] w fun e w' => ∃ b, e = .returned (ptr b) ∧ Has B w' (ringT b [] :: Ts) ∧ Below B w w' := by
  have HA : Aside0 (Has B (w.alloc (.cells ring0 101)) (ringT w.heap.size [] :: Ts)) := ⟨ring_shut (h.box ring0 101) ring0_is⟩
  have HB : Aside0 (Below B w (w.alloc (.cells ring0 101))) := ⟨(Below.refl B w).alloc h.size _⟩
  have hu := Try.underlying101
  have hb : Try.prog.built 101 [(3, .bool true)] = some ring0 := by kernel_rfl
  clear h
  go_enter Try.func29, Try.ntmps29
  go_wp2_with fail
  go_ret
  exact ⟨_, rfl, HA.out, HB.out⟩
end Go.Proofs.Ytlhlaadnifkdhaa.Sr
namespace Go.Proofs.Ytlhlaadnifkdhaa.Sr
open Go.RowKit Go.Proofs.YtlhlaadnifkdhaaW.PrintWords Go.Proofs.YtlhlaadnifkdhaaW.PrintLast Go.Proofs.YtlhlaadnifkdhaaW.PrintMore Go.Proofs.Ytlhlaadnifkdhaa.Q Go.Proofs.Ytlhlaadnifkdhaa.Own
set_option linter.unusedVariables false
set_option linter.unusedSimpArgs false
attribute [local go_sem ↓] Go.wp_at_zero Go.wp_at_succ
attribute [local go_sem] Oper.semAt_some

abbrev kS : Kd SM := k26
abbrev rowS (v : Value) (l : List SM) : Th := rowT kS 26 v l
theorem infS : (Try.prog.info? 26).map (fun i => (i.zero, i.size, i.bytes)) = some (some (.agg #[.int .i64 0, .int .i64 0]), 2, 16) := by kernel_rfl
/-- In a world a block is a ring with these samples. -/
def RingAt (W : World) (b : Nat) (xs : List SM) : Prop := ∃ cs f, W.heap[b]? = some (.cells cs 101 (0, 0)) ∧ RingIs cs f xs
theorem ring_has {W : World} {b : Nat} {xs : List SM} (h : RingAt W b xs) : ∃ cs f, Has 0 W [boxR b cs] ∧ RingIs cs f xs := by
  obtain ⟨cs, f, h1, h2⟩ := h
  exact ⟨cs, f, ⟨Nat.zero_le _, fun k => k = b, ⟨rfl, h1⟩, fun k hk => ⟨trivial, Nat.zero_le _, by rw [hk]; exact (Array.getElem?_eq_some_iff.1 h1).1⟩, trivial⟩, h2⟩
theorem ring_at_of {B : Nat} {w : World} {b : Nat} {xs : List SM} {Ts : List Th} (h : Has B w Ts) (hm : ringT b xs ∈ Ts) : RingAt w b xs ∧ b < w.heap.size := by
  obtain ⟨F, ⟨cs, f, h1, h2⟩, h3⟩ := h.mem hm
  exact ⟨⟨cs, f, h1.2, h2⟩, (h3 b h1.1).2⟩
theorem RingAt.keep {W W' : World} {b : Nat} {xs : List SM} (h : RingAt W b xs) (hb : W'.heap[b]? = W.heap[b]?) : RingAt W' b xs := by
  obtain ⟨cs, f, h1, h2⟩ := h
  exact ⟨cs, f, hb.trans h1, h2⟩
theorem RingAt.lt {W : World} {b : Nat} {xs : List SM} (h : RingAt W b xs) : b < W.heap.size ∧ xs.length ≤ 32 := by
  obtain ⟨cs, f, h1, h2⟩ := h
  exact ⟨(Array.getElem?_eq_some_iff.1 h1).1, h2.le⟩
theorem ring_len {W : World} {b : Nat} {xs : List SM} (h : RingAt W b xs) : Calls Try.prog 32 #[ptr b] W fun e w' => e = .returned (.int .i64 (xs.length : Int)) ∧ W = w' := by
  obtain ⟨cs, f, hA, hr⟩ := ring_has h
  exact rlen_calls hA (List.mem_cons_self ..) hr
theorem ring_atk {W : World} {b : Nat} {xs : List SM} (h : RingAt W b xs) (k : Nat) (hk : k < xs.length) : ∃ z, Calls Try.prog 51 #[ptr b, .int .i64 (k : Int)] W (fun e w' => e = .returned (.pointer (some ⟨b, z, none⟩)) ∧ w' = W.drew) ∧
    W.drew.cell? ⟨b, z, none⟩ = some (.int .i64 xs[k].f0) ∧ W.drew.cell? ⟨b, z + 1, none⟩ = some (.int .i64 xs[k].f1) := by
  obtain ⟨cs, f, hA, hr⟩ := ring_has h
  obtain ⟨-, -, -, -, cel, -⟩ := ring_cells hA (List.mem_cons_self ..) hr
  exact ⟨_, rat_calls hA (List.mem_cons_self ..) hr k (by have := hr.le; omega), (cel k hk).1, (cel k hk).2⟩
abbrev bxP (W : World) (bx b : Nat) : Prop := W.heap[bx]? = some (.cells #[ptr b] 70 (0, 0))
/-- What a round keeps: what lay below n₀, and the boxes of rings. -/
def KpR (n₀ : Nat) (W W' : World) : Prop := Below n₀ W W' ∧ ∀ (k : Nat) (cs : Array Value), W.heap[k]? = some (.cells cs 70 (0, 0)) → W'.heap[k]? = some (.cells cs 70 (0, 0))
theorem kpR_t {n₀ : Nat} {A B C : World} (h : KpR n₀ A B) (k : KpR n₀ B C) : KpR n₀ A C := ⟨h.1.trans k.1, fun b cs hc => k.2 b cs (h.2 b cs hc)⟩
theorem kpR_b {n₀ : Nat} {w : World} (hn : n₀ ≤ w.heap.size) (W : World) (l : Nat) (o o' : Obj) (hl : w.heap.size ≤ l) (h : W.heap[l]? = some o) (hc : o.isCells = false) (hw : o.isWalk = false) : KpR n₀ W (W.putObj l o') := by
  refine ⟨belowK_b hn W l o o' hl h hc hw, fun b cs hb => ?_⟩
  have hne : b ≠ l := by
    rintro rfl
    rw [h] at hb
    injection hb with hb
    subst hb
    cases hc
  exact (World.putObj_heap_other hne).trans hb
theorem kpR_grown {n₀ : Nat} {W W' : World} {row : Option Nat} (hn : n₀ ≤ W.heap.size) (hg : W.grownBy W' row) (hr : ∀ j, row = some j → n₀ ≤ j ∧ ∃ cs t, W.heap[j]? = some (.cells cs t (0, 0)) ∧ t ≠ 70) : KpR n₀ W W' := by
  refine ⟨(Below.refl _ _).grown hg hn (fun j hj => (hr j hj).1), fun b cs hb => ?_⟩
  have hlt : b < W.heap.size := (Array.getElem?_eq_some_iff.1 hb).1
  refine (hg.block b hlt ?_).trans hb
  intro hj
  obtain ⟨-, cs', t', hc, h1⟩ := hr b hj.symm
  rw [hc] at hb
  injection hb with hb
  injection hb with _ hb
  exact h1 hb
theorem kpR_alloc {n₀ : Nat} {W : World} (hn : n₀ ≤ W.heap.size) (o : Obj) : KpR n₀ W (W.alloc o) := kpR_grown (row := none) hn (World.grownBy_alloc W o none) (fun j h => by cases h)
def encR (x : SM) : Array Value := #[.agg #[.int .i64 x.f0, .int .i64 x.f1]]
theorem all_calls (b : Nat) (W : World) : CallsIn Fence.wide 6 Try.prog 40 #[ptr b] W fun e w' => e = .returned (.func (.func 58) #[] #[ptr W.heap.size]) ∧ w' = W.alloc (.cells #[ptr b] 70) := by
  refine callsIn_of_wp Try.func40 rfl trivial ?_ rfl
  simp only [Try.ntmps40, List.size_toArray, List.length_cons, List.length_nil, Nat.reduceAdd, Nat.reduceSub, Array.replicate_succ, Array.replicate_zero, List.push_toArray, List.append_toArray, List.nil_append, List.cons_append]
  gi_wp2
  go_ret
  exact ⟨rfl, rfl⟩
theorem take_snocS (xs : List SM) (k : Nat) (h : k < xs.length) : xs.take (k + 1) = xs.take k ++ [xs[k]] := List.take_succ_eq_append_getElem h
set_option maxRecDepth 100000 in
set_option maxHeartbeats 2000000 in
theorem ring_stops (n₀ b bx : Nat) (xs : List SM) (w : World) (hn₀ : n₀ ≤ w.heap.size) (hb : b < n₀) (hbx : bxP w bx b) (hr : RingAt w b xs) :
    SeqStopsK Fence.wide 6 Try.prog 58 #[ptr bx] encR (KpR n₀) (fun ys => ys = xs) (fun pre => pre <+: xs) xs.length w := fun l J Jx W hW hJ hJx hY h0 => by
  have hbxW : bxP W bx b := (hW.block bx (Array.getElem?_eq_some_iff.1 hbx).1).trans hbx
  have hrW : RingAt W b xs := hr.keep (hW.block b (Nat.lt_of_lt_of_le hb hn₀))
  have hcell : W.cell? ⟨bx, 0, none⟩ = some (ptr b) := by rw [blk_cell hbxW]; rfl
  have HY := Aside0.mk hY
  have HJ := Aside0.mk hJ
  have H0 : Aside0 (J (xs.take 0) W) := ⟨h0⟩
  have HBX := Aside0.mk hbxW
  have HRG := Aside0.mk hrW
  have hle := hrW.lt.2
  clear hY hJ hJx hbxW hrW hW hbx hr h0
  refine callsIn_of_wp Try.func58 rfl trivial ?_ rfl
  simp only [Try.ntmps58, List.size_toArray, List.length_cons, List.length_nil, Nat.reduceAdd, Nat.reduceSub, Array.replicate_succ, Array.replicate_zero, List.push_toArray, List.append_toArray, List.nil_append, List.cons_append]
  gi_wp2_with fail
  refine ⟨trivial, ?_⟩
  refine (callsIn_wide.2 (ring_len HRG.out)).mono ?_
  rintro e w' ⟨rfl, rfl⟩
  gi_wp2
  clear hcell
  gi_loopw [6] (fun i wr => ∃ k : Nat, i = .int .i64 k ∧ k ≤ xs.length ∧ Aside0 (J (xs.take k) wr) ∧ Aside0 (bxP wr bx b) ∧ Aside0 (RingAt wr b xs)) (fun i _ => xs.length - (intOf i).toNat)
  case atStart => exact ⟨0, rfl, by omega, H0, HBX, HRG⟩
  case round =>
    clear H0 HBX HRG
    obtain ⟨k, rfl, hk, HJk, HBX, HRG⟩ := hrel
    by_cases hlt : k < xs.length
    · have hcell : wr.cell? ⟨bx, 0, none⟩ = some (ptr b) := by rw [blk_cell HBX.out]; rfl
      have d1 : decide ((k : Int) < (xs.length : Int)) = true := decide_eq_true (by omega)
      have ek : wrap64 ((k : Int) + 1) = ((k + 1 : Nat) : Int) := (w64 (by omega) (by omega)).trans (by omega)
      obtain ⟨z, hat, x0, x1⟩ := ring_atk HRG.out k hlt
      have HAT := Aside0.mk hat
      have HTK := Aside0.mk (take_snocS xs k hlt)
      have hjd : J (xs.take k) wr.drew := HJ.out _ _ _ none HJk.out ⟨rfl, rfl, rfl, Nat.le_refl _, fun _ _ _ => rfl⟩ (fun r e => by cases e)
      obtain ⟨fn, tmps, assign, body, hy, hR⟩ := HY.out (xs.take k) xs[k] wr.drew hjd (by rw [List.length_take]; omega)
      dsimp only [encR] at hy
      have HR := Aside0.mk hR
      generalize hxk : xs[k] = xk at x0 x1 hy HTK HR
      obtain ⟨q0, q1⟩ := xk
      dsimp only at x0 x1 hy
      clear hat hjd hR HJk hxk
      gi_wp2_with fail
      refine ⟨trivial, ?_⟩
      refine (callsIn_wide.2 HAT.out).mono ?_
      rintro e w' ⟨rfl, rfl⟩
      gi_wp2_with fail
      refine HR.out.mono ?_
      rintro e W3 (⟨rfl, hJ3, hk3⟩ | ⟨rfl, hJx3⟩)
      · have HJ3 := Aside0.mk hJ3
        have HK3 := Aside0.mk hk3
        clear hJ3 hk3 HR hy x0 x1 HAT hcell
        gi_wp2
        go_roundw
        case rel => exact ⟨k + 1, by first | rfl | rw [ek], by omega, ⟨by rw [HTK.out]; exact HJ3.out⟩, ⟨HK3.out.2 _ _ HBX.out⟩, ⟨HRG.out.keep (HK3.out.1.block b hb)⟩⟩
        case measure => first | (simp [intOf]; omega) | (rw [ek]; simp [intOf]; omega)
      · have HJx3 := Aside0.mk hJx3
        clear hJx3 HR hy x0 x1 HAT hcell
        gi_wp2
        refine bodyPost_ret (results_none rfl _ _ _) rfl ?_
        exact ⟨⟨_, rfl⟩, .inr ⟨_, by rw [← HTK.out]; exact List.take_prefix _ _, HJx3.out⟩⟩
    · obtain rfl : k = xs.length := by omega
      have d1 : decide ((xs.length : Int) < (xs.length : Int)) = false := decide_eq_false (by omega)
      have HF : Aside0 (xs.take xs.length = xs) := ⟨List.take_length⟩
      gi_wp2
      go_end0
      exact ⟨⟨_, rfl⟩, .inl (by have := HJk.out; rw [HF.out] at this; exact ⟨_, rfl, this⟩)⟩
end Go.Proofs.Ytlhlaadnifkdhaa.Sr
namespace Go.Proofs.Ytlhlaadnifkdhaa.Sr
open Go.RowKit Go.Proofs.YtlhlaadnifkdhaaW.PrintWords Go.Proofs.YtlhlaadnifkdhaaW.PrintLast Go.Proofs.YtlhlaadnifkdhaaW.PrintMore Go.Proofs.Ytlhlaadnifkdhaa.Q Go.Proofs.Ytlhlaadnifkdhaa.Own
set_option linter.unusedVariables false
set_option linter.unusedSimpArgs false
attribute [local go_sem ↓] Go.wp_at_zero Go.wp_at_succ
attribute [local go_sem] Oper.semAt_some

def cellsS (x : SM) : List Value := [.int .i64 x.f0, .int .i64 x.f1]
theorem flat_snocS (l : List SM) (y : SM) : (l ++ [y]).flatMap cellsS = l.flatMap cellsS ++ cellsS y := by simp
theorem reps_S (w : World) (base : Nat) (ok : Nat → Prop) (l : List SM) : Reps (kS.M w base ok) 2 l (l.flatMap cellsS) := by
  have h : ∀ (n : Nat) (l : List SM), l.length = n → Reps (kS.M w base ok) 2 l (l.flatMap cellsS) := by
    intro n
    induction n with
    | zero =>
      intro l hl
      rw [List.length_eq_zero_iff.1 hl]
      exact Reps.none _ _
    | succ n ih =>
      intro l hl
      have hne : l ≠ [] := by rintro rfl; simp at hl
      have he := List.dropLast_concat_getLast hne
      rw [← he, flat_snocS]
      exact Reps.snoc (ih _ (by rw [List.length_dropLast]; omega)) (k26_mkM w base ok _) rfl
  exact h _ l rfl
theorem row_of_S {w : World} {base : Nat} {v : Value} {l : List SM} (h : w.ownsRow base 26 2 v l.length (l.flatMap cellsS)) : Kd.R kS 26 w base (fun _ => True) v l :=
  ⟨fun _ _ => trivial, l.flatMap cellsS, h, reps_S w base _ l⟩
def RowPost (w : World) (ys : List SM) (e : Ending) (w' : World) : Prop := ∃ v : Value, e = .returned v ∧ Kd.R kS 26 w' w.heap.size (fun _ => True) v ys ∧ Below w.heap.size w w'
theorem cells_new0 (W : World) (cs : List Value) (t : TypeId) : ∀ j u, cs[j]? = some u → (W.alloc (.cells cs.toArray t)).cell? ((⟨W.heap.size, 0, none⟩ : Addr).add j) = some u := by
  intro j u h
  have h2 : ((⟨W.heap.size, 0, none⟩ : Addr).add j) = ⟨W.heap.size, j, none⟩ := by simp [Addr.add]; intro e; exact e.symm
  rw [h2, blk_cell (blk_new W _)]
  simpa using h
theorem cells_ownR {β : Type} (B : Nat) (cs : β → Array Value) (t : TypeId) : Go.Own (fun s W => W.heap[B]? = some (.cells (cs s) t (0, 0))) := by
  intro s X Y row hs hg hrow
  refine (hg.block B (Array.getElem?_eq_some_iff.1 hs).1 (fun e => ?_)).trans hs
  obtain ⟨o, ho, hc⟩ := hrow B e.symm
  rw [hs] at ho
  cases ho
  cases hc
theorem row_typedR {W : World} {base e size : Nat} {v : Value} {k : Nat} {xs : List Value} (h : W.ownsRow base e size v k xs) : ∀ j, v.ownBlock = some j → base ≤ j ∧ ∃ cs, W.heap[j]? = some (.cells cs e (0, 0)) := by
  intro j hj
  rcases h.2 with ⟨rfl, _⟩ | ⟨g, cap, cur, rfl, hb, hg, _⟩
  · simp [Value.ownBlock] at hj
  · have : g = j := by simpa [Value.ownBlock] using hj
    subst this
    exact ⟨hb, cur, hg⟩
/-- Between two rounds of AppendSeq: what has come, in the box. -/
def CollI (w : World) (pre : List SM) (W : World) : Prop := (∃ v, Boxed W w.heap.size 62 v ∧ W.ownsRow w.heap.size 26 2 v pre.length (pre.flatMap cellsS) ∧ True) ∧ Below w.heap.size w W
theorem collI_own (w : World) (B : Nat) (hB : w.heap.size ≤ B) : OwnFrom B (CollI w) :=
  OwnFrom.and (Own.from (holdsRow_own w.heap.size w.heap.size 62 26 2 (fun (pre : List SM) => pre.length) (fun pre => pre.flatMap cellsS) (fun _ _ => True)) _) (ownFrom_below (Nat.le_refl _) hB)
/-- A round that keeps a sample: its ends. -/
theorem coll_end {w W w1 : World} {pre : List SM} {y : SM} {v v' : Value} {tmp : Obj} {B0 : Nat} (hI : CollI w pre W)
    (hv : Boxed W w.heap.size 62 v) (hrow : W.ownsRow w.heap.size 26 2 v pre.length (pre.flatMap cellsS))
    (hown' : w1.ownsRow w.heap.size 26 2 v' (pre.length + 1) (pre.flatMap cellsS ++ cellsS y)) (hgrow : (W.alloc tmp).grownBy w1 v.ownBlock) :
    Boxed w1 w.heap.size 62 v ∧ (KeepsFrom B0 W (w1.setCell ⟨w.heap.size, 0, none⟩ v') ∧ KpR w.heap.size W (w1.setCell ⟨w.heap.size, 0, none⟩ v') ∧ CollI w (pre ++ [y]) (w1.setCell ⟨w.heap.size, 0, none⟩ v')) := by
  have hsz := hI.2.size
  obtain ⟨hv1, hv2, hr2, hk2, hb2⟩ := hv.appended (by decide) hrow hsz (Nat.le_refl _) hown' hgrow
  have hkp : KpR w.heap.size W (w1.setCell ⟨w.heap.size, 0, none⟩ v') := by
    refine kpR_t (kpR_alloc hsz tmp) (kpR_t (kpR_grown (by simp; omega) hgrow (fun j hj => ?_)) (kpR_grown (row := some w.heap.size) ?_ (grownBy_setCell' w1 _ v') (fun j hj => ?_)))
    · obtain ⟨h1, cs, h2⟩ := row_typedR (hrow.alloc tmp) j hj
      exact ⟨h1, cs, 26, h2, by decide⟩
    · have := hv1.lt; omega
    · cases hj
      exact ⟨by omega, _, 62, hv1, by decide⟩
  refine ⟨hv1, hk2.from _, hkp, ⟨v', hv2, ?_, trivial⟩, hI.2.trans hb2⟩
  rw [flat_snocS, List.length_append, List.length_singleton]
  exact hr2
set_option maxRecDepth 100000 in
set_option maxHeartbeats 4000000 in
theorem appseq_calls {w : World} {b bx : Nat} {xs : List SM} (hb : b < w.heap.size) (hbx : bxP w bx b) (hr : RingAt w b xs) :
    Calls Try.prog 57 #[.slice none 0 0, .func (.func 58) #[] #[ptr bx]] w (RowPost w xs) := by
  have hlen := hr.lt.2
  have hlx := (Array.getElem?_eq_some_iff.1 hbx).1
  obtain ⟨i0, hi, hz0, hz1, hz2⟩ := info_parts infS
  refine (callsIn_wide (n := 7)).1 ?_
  refine callsIn_of_wp_marks Try.func57 rfl trivial ?_ rfl
  simp only [Try.ntmps57, List.size_toArray, List.length_cons, List.length_nil, Nat.reduceAdd, Nat.reduceSub, Array.replicate_succ, Array.replicate_zero, List.push_toArray, List.append_toArray, List.nil_append, List.cons_append]
  gi_wp2_with fail
  obtain ⟨W0, hW0⟩ : ∃ W0, W0 = w.alloc (.cells #[.slice none 0 0] 62) := ⟨_, rfl⟩
  rw [← hW0]
  have hB0 : Below w.heap.size w W0 := by rw [hW0]; exact (Below.refl _ w).alloc (Nat.le_refl _) _
  have bx0 : Boxed W0 w.heap.size 62 (.slice none 0 0) := by rw [hW0]; exact Boxed.new w _ _
  have hz : W0.heap.size = w.heap.size + 1 := by rw [hW0]; simp
  have hI0 : CollI w [] W0 := ⟨⟨_, bx0, World.ownsRow_nil _ _ _ _, trivial⟩, hB0⟩
  have hbx0 : bxP W0 bx b := (hB0.block bx hlx).trans hbx
  have hr0 : RingAt W0 b xs := hr.keep (hB0.block b hb)
  clear hW0 hbx hr bx0 hz
  have HI0 := Aside0.mk hI0
  have hBs := hB0.size
  clear hI0
  refine wpIn_rangeFunc_ownH (F := Fence.wide) (n := 7) rfl (by decide) (gf := 58) (lb := #[ptr bx]) rfl trivial (enters_of Try.func58 (by kernel_rfl) rfl)
    (ring_stops w.heap.size b bx xs W0 hBs hb hbx0 hr0) (fun h k => kpR_t h k) (kpR_b hBs) (Below.refl _ _) (fun _ => rfl)
    (CollI w) (fun _ _ _ => False) (collI_own w _ hBs) (fun _ _ _ _ _ hs _ _ => hs) HI0.out
    (fun x a' W => ∃ Bx, w.heap.size < Bx ∧ W.heap[Bx]? = some (.cells #[.int .i64 x.f0, .int .i64 x.f1] 26 (0, 0)) ∧ a' = { tmps := #[.slice none 0 0, .func (.func 58) #[] #[ptr bx], ptr w.heap.size, undef, .slice none 0 0, ptr Bx, .func (.func 58) #[] #[ptr bx], .agg #[.int .i64 x.f0, .int .i64 x.f1], undef, undef, undef, undef, undef], defers := [] })
    (fun x a' _ X Y row hs hg hr => by obtain ⟨Bx, h1, h2, h3⟩ := hs; exact ⟨Bx, h1, cells_ownR Bx (fun (_ : Unit) => _) 26 () X Y row h2 hg (fun r e => (hr r e).2), h3⟩)
    ?assign ?body ?done ?stop
  case assign =>
    rintro l pre ⟨g0, g1⟩ W K hI hK
    have hsz := hI.2.size
    dsimp only [encR]
    gi_wp2
    refine hK _ _ ((KeepsOthers.alloc _ _).from _) (kpR_alloc hsz _) ?_ ⟨W.heap.size, ?_, World.alloc_heap_new W _, rfl⟩
    · obtain ⟨⟨v, hv, hrow, -⟩, hB⟩ := hI
      exact ⟨⟨v, hv.alloc _, hrow.alloc _, trivial⟩, hB.alloc hsz _⟩
    · obtain ⟨⟨v, hv, -⟩, -⟩ := hI
      exact hv.lt
  case body =>
    rintro l pre ⟨g0, g1⟩ a' W hl ⟨r, hr⟩ hI ⟨Bx, hBx, bX, rfl⟩ hlt
    have HI := Aside0.mk hI
    obtain ⟨⟨v, hv, hrow, -⟩, hB⟩ := hI
    have HV := Aside0.mk hv
    have HROW := Aside0.mk hrow
    have hpl : pre.length < 32 := by omega
    have hBs2 := hB.size
    have ccv := hv.cell
    have x0 : W.cell? ⟨Bx, 0, none⟩ = some (.int .i64 g0) := blk_cell bX 0
    have x1 : W.cell? ⟨Bx, 1, none⟩ = some (.int .i64 g1) := blk_cell bX 1
    clear hlt hv hrow hB bX hr hr0 hbx0
    gi_wp2_with (gi_at_builtin; refine wpListIn_append_own _ rfl _ _ 62 rfl w.heap.size 26 i0 (.agg #[.int .i64 0, .int .i64 0]) 2 16 Try.underlying62 hi hz0 hz1 hz2 rfl (by decide) _ _ _ rfl (HROW.out.alloc _) ⟨W.heap.size, 0, none⟩ 1 1 [.int .i64 g0, .int .i64 g1] rfl rfl (cells_new0 _ _ _) (by simp [Value.oneCell']) (by unfold maxLen; omega) (by omega) (by simp; omega) ?_; intro v' w1 hown' hgrow _; obtain ⟨g', cap', rfl⟩ := ownsRow_succ hown'; have hfin := coll_end (y := (⟨g0, g1⟩ : SM)) HI.out HV.out HROW.out hown' hgrow (B0 := W0.heap.size); have hc1 := hfin.1.cell; have hf1 := hfin.1.frozen; have HFIN := Aside0.mk hfin.2; clear hfin hown' hgrow)
    exact HFIN.out
  case done =>
    rintro Dd ys W hD rfl hI hK
    obtain ⟨⟨v, hv, hrow, -⟩, hB⟩ := hI
    have hcell := hv.cell
    gi_wp2
    refine ⟨by simp, .inl ⟨_, _, rfl, run_takeDeferred hK, ?_⟩⟩
    exact ⟨_, results_tmp rfl _ _ _, v, rfl, row_of_S (ownsRow_putObj hrow _ hK rfl), hB.trans (belowK_b (w := w) (Nat.le_refl _) W Dd _ _ (by omega) hK rfl rfl)⟩
  case stop =>
    rintro Dd c pre W _ _ h _
    exact h.elim
theorem collect_calls {w : World} {b bx : Nat} {xs : List SM} (hb : b < w.heap.size) (hbx : bxP w bx b) (hr : RingAt w b xs) :
    Calls Try.prog 39 #[.func (.func 58) #[] #[ptr bx]] w (RowPost w xs) := by
  have HA := Aside0.mk (appseq_calls hb hbx hr)
  clear hb hbx hr
  go_enter Try.func39, Try.ntmps39
  go_wp2_with fail
  refine HA.out.mono ?_
  rintro e w' ⟨v, rfl, h1, h2⟩
  have H1 := Aside0.mk h1
  clear h1 HA
  go_wp2_with fail
  go_ret
  exact ⟨v, rfl, H1.out, h2⟩
end Go.Proofs.Ytlhlaadnifkdhaa.Sr
namespace Go.Proofs.Ytlhlaadnifkdhaa.Sr
open Go.RowKit Go.Proofs.YtlhlaadnifkdhaaW.PrintWords Go.Proofs.YtlhlaadnifkdhaaW.PrintLast Go.Proofs.YtlhlaadnifkdhaaW.PrintMore Go.Proofs.Ytlhlaadnifkdhaa.Q Go.Proofs.Ytlhlaadnifkdhaa.Own
set_option linter.unusedVariables false
set_option linter.unusedSimpArgs false
attribute [local go_sem ↓] Go.wp_at_zero Go.wp_at_succ
attribute [local go_sem] Oper.semAt_some

def inW (from_ to_ : Int) (x : SM) : Bool := decide (from_ < x.f0) && decide (x.f0 ≤ to_)
def winL (xs : List SM) (from_ to_ : Int) : List SM := xs.filter (inW from_ to_)
theorem win_snoc1 {from_ to_ : Int} {pre : List SM} {y : SM} (h : inW from_ to_ y = true) : winL (pre ++ [y]) from_ to_ = winL pre from_ to_ ++ [y] := by
  unfold winL
  rw [List.filter_append, List.filter_cons_of_pos h]
  rfl
theorem win_snoc0 {from_ to_ : Int} {pre : List SM} {y : SM} (h : inW from_ to_ y = false) : winL (pre ++ [y]) from_ to_ = winL pre from_ to_ := by
  unfold winL
  rw [List.filter_append, List.filter_cons_of_neg (by rw [h]; decide), List.filter_nil, List.append_nil]
/-- Between two rounds of Window: the bounds in their boxes, what has come, in its own. -/
def WinI (w : World) (from_ to_ : Int) (pre : List SM) (W : World) : Prop :=
  (Boxed W w.heap.size 3 (.int .i64 from_) ∧ Boxed W (w.heap.size + 1) 3 (.int .i64 to_)) ∧ (∃ v, Boxed W (w.heap.size + 2) 62 v ∧ W.ownsRow w.heap.size 26 2 v (winL pre from_ to_).length ((winL pre from_ to_).flatMap cellsS) ∧ True) ∧ Below w.heap.size w W
theorem boxed_ownR (B : Nat) (t : TypeId) (v : Value) : Go.Own (fun (_ : List SM) W => Boxed W B t v) := fun s X Y row hs hg hrow => cells_ownR B (fun (_ : List SM) => #[v]) t s X Y row hs hg hrow
theorem winI_own (w : World) (from_ to_ : Int) (B : Nat) (hB : w.heap.size ≤ B) : OwnFrom B (WinI w from_ to_) :=
  OwnFrom.and (OwnFrom.and (Own.from (boxed_ownR _ _ _) _) (Own.from (boxed_ownR _ _ _) _)) (OwnFrom.and (Own.from (holdsRow_own w.heap.size (w.heap.size + 2) 62 26 2 (fun (pre : List SM) => (winL pre from_ to_).length) (fun pre => (winL pre from_ to_).flatMap cellsS) (fun _ _ => True)) _) (ownFrom_below (Nat.le_refl _) hB))
theorem win_end {w W w1 : World} {from_ to_ : Int} {pre : List SM} {y : SM} {v v' : Value} {tmp : Obj} {B0 : Nat} (hI : WinI w from_ to_ pre W) (hy : inW from_ to_ y = true)
    (hv : Boxed W (w.heap.size + 2) 62 v) (hrow : W.ownsRow w.heap.size 26 2 v (winL pre from_ to_).length ((winL pre from_ to_).flatMap cellsS))
    (hown' : w1.ownsRow w.heap.size 26 2 v' ((winL pre from_ to_).length + 1) ((winL pre from_ to_).flatMap cellsS ++ cellsS y)) (hgrow : (W.alloc tmp).grownBy w1 v.ownBlock) :
    Boxed w1 (w.heap.size + 2) 62 v ∧ (KeepsFrom B0 W (w1.setCell ⟨w.heap.size + 2, 0, none⟩ v') ∧ KpR w.heap.size W (w1.setCell ⟨w.heap.size + 2, 0, none⟩ v') ∧ WinI w from_ to_ (pre ++ [y]) (w1.setCell ⟨w.heap.size + 2, 0, none⟩ v')) := by
  obtain ⟨⟨b0, b1⟩, -, hB⟩ := hI
  have hsz := hB.size
  obtain ⟨hv1, hv2, hr2, hk2, hb2⟩ := hv.appended (by decide) hrow hsz (by omega) hown' hgrow
  have far : ∀ (b : Nat) (t : TypeId) (u : Value), b ≠ w.heap.size + 2 → t ≠ 26 → Boxed W b t u → Boxed (w1.setCell ⟨w.heap.size + 2, 0, none⟩ v') b t u := by
    intro b t u hb ht hx
    refine Boxed.kept ((hx.alloc tmp).kept hgrow (Boxed.not_row (hx.alloc tmp) ht (hrow.alloc tmp))) (grownBy_setCell' w1 _ v') (fun e => hb (by injection e))
  have hkp : KpR w.heap.size W (w1.setCell ⟨w.heap.size + 2, 0, none⟩ v') := by
    refine kpR_t (kpR_alloc hsz tmp) (kpR_t (kpR_grown (by simp; omega) hgrow (fun j hj => ?_)) (kpR_grown (row := some (w.heap.size + 2)) ?_ (grownBy_setCell' w1 _ v') (fun j hj => ?_)))
    · obtain ⟨h1, cs, h2⟩ := row_typedR (hrow.alloc tmp) j hj
      exact ⟨h1, cs, 26, h2, by decide⟩
    · have := hv1.lt; omega
    · cases hj
      exact ⟨by omega, _, 62, hv1, by decide⟩
  refine ⟨hv1, hk2.from _, hkp, ⟨far _ _ _ (by omega) (by decide) b0, far _ _ _ (by omega) (by decide) b1⟩, ⟨v', hv2, ?_, trivial⟩, hB.trans hb2⟩
  rw [win_snoc1 hy, flat_snocS, List.length_append, List.length_singleton]
  exact hr2
theorem win_skip {w W : World} {from_ to_ : Int} {pre : List SM} {y : SM} {B0 : Nat} (hI : WinI w from_ to_ pre W) (hy : inW from_ to_ y = false) : KeepsFrom B0 W W ∧ KpR w.heap.size W W ∧ WinI w from_ to_ (pre ++ [y]) W := by
  obtain ⟨h1, ⟨v, hv, hrow, -⟩, hB⟩ := hI
  refine ⟨(KeepsOthers.refl _).from _, ⟨Below.refl _ _, fun _ _ h => h⟩, h1, ⟨v, hv, ?_, trivial⟩, hB⟩
  rw [win_snoc0 hy]
  exact hrow
set_option maxRecDepth 100000 in
set_option maxHeartbeats 4000000 in
theorem window_calls {w : World} {b : Nat} {xs : List SM} (hr : RingAt w b xs) (from_ to_ : Int) :
    Calls Try.prog 42 #[ptr b, .int .i64 from_, .int .i64 to_] w (RowPost w (winL xs from_ to_)) := by
  have hlen := hr.lt.2
  have hb := hr.lt.1
  obtain ⟨i0, hi, hz0, hz1, hz2⟩ := info_parts infS
  refine (callsIn_wide (n := 7)).1 ?_
  refine callsIn_of_wp_marks Try.func42 rfl trivial ?_ rfl
  simp only [Try.ntmps42, List.size_toArray, List.length_cons, List.length_nil, Nat.reduceAdd, Nat.reduceSub, Array.replicate_succ, Array.replicate_zero, List.push_toArray, List.append_toArray, List.nil_append, List.cons_append]
  gi_wp2_with fail
  refine ⟨trivial, ?_⟩
  obtain ⟨w1, hw1⟩ : ∃ w1, w1 = ((w.alloc (.cells #[.int .i64 from_] 3)).alloc (.cells #[.int .i64 to_] 3)).alloc (.cells #[.slice none 0 0] 62) := ⟨_, rfl⟩
  rw [← hw1]
  have hz5 : w1.heap.size = w.heap.size + 3 := by rw [hw1]; simp
  have hB1 : Below w.heap.size w w1 := by
    rw [hw1]
    exact (((Below.refl _ w).alloc (Nat.le_refl _) _).alloc (by simp) _).alloc (by simp; omega) _
  have bx0 : Boxed w1 w.heap.size 3 (.int .i64 from_) := by rw [hw1]; exact ((Boxed.new w 3 _).alloc _).alloc _
  have bx1 : Boxed w1 (w.heap.size + 1) 3 (.int .i64 to_) := by
    have := (Boxed.new (w.alloc (.cells #[.int .i64 from_] 3)) 3 (.int .i64 to_)).alloc (.cells #[.slice none 0 0] 62)
    rw [hw1]; simpa using this
  have bx2 : Boxed w1 (w.heap.size + 2) 62 (.slice none 0 0) := by
    have := Boxed.new ((w.alloc (.cells #[.int .i64 from_] 3)).alloc (.cells #[.int .i64 to_] 3)) 62 (.slice none 0 0)
    rw [hw1]; simpa using this
  clear hw1
  refine (all_calls b w1).mono ?_
  rintro e w2 ⟨rfl, rfl⟩
  obtain ⟨bx, hbxe⟩ : ∃ bx, w1.heap.size = bx := ⟨_, rfl⟩
  have hbx : bxP (w1.alloc (.cells #[ptr b] 70)) bx b := by rw [← hbxe]; exact World.alloc_heap_new w1 _
  rw [hbxe]
  gi_wp2_with fail
  obtain ⟨W0, hW0⟩ : ∃ W0, W0 = w1.alloc (.cells #[ptr b] 70) := ⟨_, rfl⟩
  rw [← hW0] at hbx ⊢
  have hB0 : Below w.heap.size w W0 := by rw [hW0]; exact hB1.alloc (by omega) _
  have hI0 : WinI w from_ to_ [] W0 := by
    refine ⟨⟨?_, ?_⟩, ⟨_, ?_, World.ownsRow_nil _ _ _ _, trivial⟩, hB0⟩
    · rw [hW0]; exact bx0.alloc _
    · rw [hW0]; exact bx1.alloc _
    · rw [hW0]; exact bx2.alloc _
  have hr0 : RingAt W0 b xs := hr.keep (hB0.block b hb)
  have hbx3 : w.heap.size + 2 < bx := by omega
  clear hW0 hr bx0 bx1 bx2 hbxe hz5 hB1
  have HI0 := Aside0.mk hI0
  have hBs := hB0.size
  clear hI0
  refine wpIn_rangeFunc_ownH (F := Fence.wide) (n := 7) rfl (by decide) (gf := 58) (lb := #[ptr bx]) rfl trivial (enters_of Try.func58 (by kernel_rfl) rfl)
    (ring_stops w.heap.size b bx xs W0 hBs hb hbx hr0) (fun h k => kpR_t h k) (kpR_b hBs) (Below.refl _ _) (fun _ => rfl)
    (WinI w from_ to_) (fun _ _ _ => False) (winI_own w from_ to_ _ hBs) (fun _ _ _ _ _ hs _ _ => hs) HI0.out
    (fun x a' W => ∃ Bx, w.heap.size + 2 < Bx ∧ W.heap[Bx]? = some (.cells #[.int .i64 x.f0, .int .i64 x.f1] 26 (0, 0)) ∧ a' = { tmps := #[ptr b, .int .i64 from_, .int .i64 to_, undef, ptr w.heap.size, ptr (w.heap.size + 1), .slice none 0 0, ptr (w.heap.size + 2), ptr Bx, ptr b, .func (.func 58) #[] #[ptr bx], .agg #[.int .i64 x.f0, .int .i64 x.f1], undef, undef, undef, undef, undef, undef, undef, undef, undef, undef, undef, undef, undef, undef, undef], defers := [] })
    (fun x a' _ X Y row hs hg hr => by obtain ⟨Bx, h1, h2, h3⟩ := hs; exact ⟨Bx, h1, cells_ownR Bx (fun (_ : Unit) => _) 26 () X Y row h2 hg (fun r e => (hr r e).2), h3⟩)
    ?assign ?body ?done ?stop
  case assign =>
    rintro l pre ⟨g0, g1⟩ W K hI hK
    have hsz := hI.2.2.size
    dsimp only [encR]
    gi_wp2
    refine hK _ _ ((KeepsOthers.alloc _ _).from _) (kpR_alloc hsz _) ?_ ⟨W.heap.size, ?_, World.alloc_heap_new W _, rfl⟩
    · obtain ⟨⟨b0, b1⟩, ⟨v, hv, hrow, -⟩, hB⟩ := hI
      exact ⟨⟨b0.alloc _, b1.alloc _⟩, ⟨v, hv.alloc _, hrow.alloc _, trivial⟩, hB.alloc hsz _⟩
    · obtain ⟨-, ⟨v, hv, -⟩, -⟩ := hI
      exact hv.lt
  case body =>
    rintro l pre ⟨g0, g1⟩ a' W hl ⟨r, hr⟩ hI ⟨Bx, hBx, bX, rfl⟩ hlt
    have HI := Aside0.mk hI
    obtain ⟨⟨b0, b1⟩, ⟨v, hv, hrow, -⟩, hB⟩ := hI
    have HV := Aside0.mk hv
    have HROW := Aside0.mk hrow
    have hpl : (winL pre from_ to_).length < 32 := Nat.lt_of_le_of_lt (List.length_filter_le _ _) (by omega)
    have hBs2 := hB.size
    have ccv := hv.cell
    have cc0 := b0.cell
    have cc1 := b1.cell
    have x0 : W.cell? ⟨Bx, 0, none⟩ = some (.int .i64 g0) := blk_cell bX 0
    have x1 : W.cell? ⟨Bx, 1, none⟩ = some (.int .i64 g1) := blk_cell bX 1
    clear hlt hv hrow hB bX hr hr0 hbx b0 b1
    by_cases h1 : from_ < g0
    · have d1 : decide (g0 > from_) = true := decide_eq_true h1
      by_cases h2 : g0 ≤ to_
      · have d2 : decide (g0 ≤ to_) = true := decide_eq_true h2
        have HY : Aside0 (inW from_ to_ (⟨g0, g1⟩ : SM) = true) := ⟨by unfold inW; rw [decide_eq_true h1, decide_eq_true h2]; rfl⟩
        gi_wp2_with (gi_at_builtin; refine wpListIn_append_own _ rfl _ _ 62 rfl w.heap.size 26 i0 (.agg #[.int .i64 0, .int .i64 0]) 2 16 Try.underlying62 hi hz0 hz1 hz2 rfl (by decide) _ _ _ rfl (HROW.out.alloc _) ⟨W.heap.size, 0, none⟩ 1 1 [.int .i64 g0, .int .i64 g1] rfl rfl (cells_new0 _ _ _) (by simp [Value.oneCell']) (by unfold maxLen; omega) (by omega) (by simp; omega) ?_; intro v' w1 hown' hgrow _; obtain ⟨g', cap', rfl⟩ := ownsRow_succ hown'; have hfin := win_end (y := (⟨g0, g1⟩ : SM)) HI.out HY.out HV.out HROW.out hown' hgrow (B0 := W0.heap.size); have hc1 := hfin.1.cell; have hf1 := hfin.1.frozen; have HFIN := Aside0.mk hfin.2; clear hfin hown' hgrow)
        exact HFIN.out
      · have d2 : decide (g0 ≤ to_) = false := decide_eq_false h2
        have HY : Aside0 (inW from_ to_ (⟨g0, g1⟩ : SM) = false) := ⟨by unfold inW; rw [show decide ((⟨g0, g1⟩ : SM).f0 ≤ to_) = false from d2, Bool.and_false]⟩
        gi_wp2
        exact win_skip HI.out HY.out
    · have d1 : decide (g0 > from_) = false := decide_eq_false h1
      have HY : Aside0 (inW from_ to_ (⟨g0, g1⟩ : SM) = false) := ⟨by unfold inW; rw [show decide (from_ < (⟨g0, g1⟩ : SM).f0) = false from d1, Bool.false_and]⟩
      gi_wp2
      exact win_skip HI.out HY.out
  case done =>
    rintro Dd ys W hD rfl hI hK
    obtain ⟨-, ⟨v, hv, hrow, -⟩, hB⟩ := hI
    have hcell := hv.cell
    gi_wp2
    refine ⟨by simp, .inl ⟨_, _, rfl, run_takeDeferred hK, ?_⟩⟩
    exact ⟨_, results_tmp rfl _ _ _, v, rfl, row_of_S (ownsRow_putObj hrow _ hK rfl), hB.trans (belowK_b (w := w) (Nat.le_refl _) W Dd _ _ (by omega) hK rfl rfl)⟩
  case stop =>
    rintro Dd c pre W _ _ h _
    exact h.elim
end Go.Proofs.Ytlhlaadnifkdhaa.Sr
