/- A ring of samples, as a thing: made, at, Len: walked. No law is proved here. -/
import Derived.Test.YtlhlaadnifkdhaaRws
import Derived.Test.YtlhlaadnifkdhaaQ0
import Derived.Test.YtlhlaadnifkdhaaWLast
import Derived.Test.YtlhlaadnifkdhaaWMore
import Derived.Deep.RegionHeld3
import Derived.Deep.DrawnRows
import Derived.BigRegion
import Derived.BigQuiet
import Derived.Scope
namespace Go.Proofs.Ytlhlaadnifkdhaa.Sr
open Go.RowKit Go.Proofs.YtlhlaadnifkdhaaW.PrintWords Go.Proofs.YtlhlaadnifkdhaaW.PrintLast Go.Proofs.YtlhlaadnifkdhaaW.PrintMore Go.Proofs.Ytlhlaadnifkdhaa.Q Go.Proofs.Ytlhlaadnifkdhaa.Own
set_option linter.unusedVariables false
set_option linter.unusedSimpArgs false
attribute [local go_sem ↓] Go.wp_at_zero Go.wp_at_succ

abbrev SM := S26
abbrev ptr (b : Nat) : Value := .pointer (some ⟨b, 0, none⟩)
abbrev boxR (b : Nat) (cs : Array Value) : Th := boxT b cs 101
/-- These cells are a ring with these samples, the first one at place f. -/
structure RingIs (cs : Array Value) (f : Nat) (xs : List SM) : Prop where
  size : cs.size = 67
  first : cs[64]? = some (.int .i64 (f : Int))
  n : cs[65]? = some (.int .i64 (xs.length : Int))
  made : cs[66]? = some (.bool true)
  lt : f < 32
  le : xs.length ≤ 32
  el : ∀ j (h : j < xs.length), cs[(f + j) % 32 * 2]? = some (.int .i64 xs[j].f0) ∧ cs[(f + j) % 32 * 2 + 1]? = some (.int .i64 xs[j].f1)
def ringT (b : Nat) (xs : List SM) : Th where
  on w F := ∃ cs f, (boxR b cs).on w F ∧ RingIs cs f xs
  loc := by
    rintro w w' F ⟨cs, f, h1, h2⟩ hm
    exact ⟨cs, f, (boxR b cs).loc h1 hm, h2⟩
theorem ring_open {B : Nat} {w : World} {b : Nat} {xs : List SM} {Ts : List Th} (h : Has B w (ringT b xs :: Ts)) : ∃ cs f, Has B w (boxR b cs :: Ts) ∧ RingIs cs f xs := by
  obtain ⟨h0, F, ⟨cs, f, h1, h2⟩, h3, h4⟩ := h
  exact ⟨cs, f, ⟨h0, F, h1, h3, h4⟩, h2⟩
theorem ring_shut {B : Nat} {w : World} {b : Nat} {cs : Array Value} {f : Nat} {xs : List SM} {Ts : List Th} (h : Has B w (boxR b cs :: Ts)) (hr : RingIs cs f xs) : Has B w (ringT b xs :: Ts) := by
  obtain ⟨h0, F, h1, h3, h4⟩ := h
  exact ⟨h0, F, ⟨cs, f, h1, hr⟩, h3, h4⟩
theorem ring_cells {B : Nat} {w : World} {b : Nat} {cs : Array Value} {f : Nat} {xs : List SM} {Ts : List Th} (h : Has B w Ts) (hm : boxR b cs ∈ Ts) (hr : RingIs cs f xs) :
    w.cell? ⟨b, 64, none⟩ = some (.int .i64 (f : Int)) ∧ w.cell? ⟨b, 65, none⟩ = some (.int .i64 (xs.length : Int)) ∧ w.cell? ⟨b, 66, none⟩ = some (.bool true) ∧ (∀ j, w.frozen? ⟨b, j, none⟩ = false) ∧ (∀ j (hj : j < xs.length), w.cell? ⟨b, (f + j) % 32 * 2, none⟩ = some (.int .i64 xs[j].f0) ∧ w.cell? ⟨b, (f + j) % 32 * 2 + 1, none⟩ = some (.int .i64 xs[j].f1)) ∧ ∀ j, j < 67 → ∃ v, w.cell? ⟨b, j, none⟩ = some v := by
  obtain ⟨h1, h2, -, -⟩ := h.box_cell hm
  refine ⟨(h1 64).trans hr.first, (h1 65).trans hr.n, (h1 66).trans hr.made, h2, fun j hj => ⟨(h1 _).trans (hr.el j hj).1, (h1 _).trans (hr.el j hj).2⟩, fun j hj => ?_⟩
  rw [h1]
  exact ⟨_, Array.getElem?_eq_getElem (by rw [hr.size]; exact hj)⟩
theorem rnone_calls {B : Nat} {w : World} {b : Nat} {cs : Array Value} {f : Nat} {xs : List SM} {Ts : List Th} (h : Has B w Ts) (hm : boxR b cs ∈ Ts) (hr : RingIs cs f xs) :
    Calls Try.prog 50 #[ptr b] w fun e w' => e = .returned (.bool false) ∧ w = w' := by
  obtain ⟨-, -, c2, -, -, -⟩ := ring_cells h hm hr
  clear h hm hr
  go_enter Try.func50, Try.ntmps50
  go_wp2_with fail
  go_ret
  exact ⟨rfl, rfl⟩
theorem rlen_calls {B : Nat} {w : World} {b : Nat} {cs : Array Value} {f : Nat} {xs : List SM} {Ts : List Th} (h : Has B w Ts) (hm : boxR b cs ∈ Ts) (hr : RingIs cs f xs) :
    Calls Try.prog 32 #[ptr b] w fun e w' => e = .returned (.int .i64 (xs.length : Int)) ∧ w = w' := by
  have HN := Aside0.mk (rnone_calls h hm hr)
  obtain ⟨-, c1, -, -, -, -⟩ := ring_cells h hm hr
  clear h hm hr
  go_enter Try.func32, Try.ntmps32
  go_wp2_with fail
  refine HN.out.mono ?_
  rintro e w1 ⟨rfl, rfl⟩
  go_wp2_with fail
  go_ret
  exact ⟨rfl, rfl⟩
theorem w64 {x : Int} (h0 : -9223372036854775808 ≤ x) (h1 : x ≤ 9223372036854775807) : wrap64 x = x := by unfold wrap64; omega
set_option maxHeartbeats 1000000 in
set_option maxRecDepth 100000 in
theorem rat_calls {B : Nat} {w : World} {b : Nat} {cs : Array Value} {f : Nat} {xs : List SM} {Ts : List Th} (h : Has B w Ts) (hm : boxR b cs ∈ Ts) (hr : RingIs cs f xs) (i : Nat) (hi : i ≤ 32) :
    Calls Try.prog 51 #[ptr b, .int .i64 (i : Int)] w fun e w' => e = .returned (.pointer (some ⟨b, (f + i) % 32 * 2, none⟩)) ∧ w' = w.drew := by
  obtain ⟨c0, -, -, -, -, -⟩ := ring_cells h hm hr
  have e1 : wrap64 ((f : Int) + (i : Int)) = ((f + i : Nat) : Int) := (w64 (by have := hr.lt; omega) (by have := hr.lt; omega)).trans (by omega)
  have e2 : Int.tmod ((f + i : Nat) : Int) 32 = (((f + i) % 32 : Nat) : Int) := by rw [Int.tmod_eq_emod_of_nonneg (by omega)]; omega
  have hlt : (f + i) % 32 < 32 := Nat.mod_lt _ (by decide)
  generalize (f + i) % 32 = k at e2 hlt ⊢
  generalize f + i = fi at e1 e2
  have e3 : wrap64 (k : Int) = (k : Int) := w64 (by omega) (by omega)
  have d1 : decide (0 ≤ (k : Int)) = true := decide_eq_true (by omega)
  have d2 : decide ((k : Int) < 32) = true := decide_eq_true (by omega)
  have d3 : (k : Int) < 32 := by omega
  clear h hm hr
  go_enter Try.func51, Try.ntmps51
  go_wp2_with fail
  refine start_ (n := 12) (S := fun w' => w'.cell? ⟨b, 64, none⟩ = some (.int .i64 (f : Int))) (ds := []) #[false, false, false, false, false, false, false, false, false, false, false, false] (by kernel_rfl) rfl rfl (c0) (fun hHeld => ?_)
  refine pure_ (i := 0) (N := some 5) (v := ?_) (a' := ?_) #[true, false, false, false, false, false, false, false, false, false, false, false] rfl rfl (by kernel_rfl) (fun _ _ _ h => h) (Or.inl ⟨by rfl, ?_⟩) ?_ ?_
  rotate_left
  · intro w'
    go_simp
    with_reducible rfl
  rotate_left
  · simp only [Act.put, List.setIfInBounds_toArray, List.set_cons_zero, List.set_cons_succ, i64_w, i32_w]
    rfl
  refine pure_ (i := 1) (N := some 6) (v := ?_) (a' := ?_) #[true, true, false, false, false, false, false, false, false, false, false, false] rfl rfl (by kernel_rfl) (fun _ _ _ h => h) (Or.inl ⟨by rfl, ?_⟩) ?_ ?_
  rotate_left
  · intro w'
    go_simp
    with_reducible rfl
  rotate_left
  · simp only [Act.put, List.setIfInBounds_toArray, List.set_cons_zero, List.set_cons_succ, i64_w, i32_w]
    rfl
  refine pure_ (i := 2) (N := some 7) (v := ?_) (a' := ?_) #[true, true, true, false, false, false, false, false, false, false, false, false] rfl rfl (by kernel_rfl) (fun _ _ _ h => h) (Or.inl ⟨by rfl, ?_⟩) ?_ ?_
  rotate_left
  · intro w'
    go_simp
    with_reducible rfl
  rotate_left
  · simp only [Act.put, List.setIfInBounds_toArray, List.set_cons_zero, List.set_cons_succ, i64_w, i32_w]
    rfl
  refine pure_ (i := 3) (N := some 8) (v := ?_) (a' := ?_) #[true, true, true, true, false, false, false, false, false, false, false, false] rfl rfl (by kernel_rfl) (fun _ _ _ h => h) (Or.inl ⟨by rfl, ?_⟩) ?_ ?_
  rotate_left
  · intro w'
    go_simp
    with_reducible rfl
  rotate_left
  · simp only [Act.put, List.setIfInBounds_toArray, List.set_cons_zero, List.set_cons_succ, i64_w, i32_w]
    rfl
  refine pure_ (i := 5) (N := some 10) (v := ?_) (a' := ?_) #[true, true, true, true, false, true, false, false, false, false, false, false] rfl rfl (by kernel_rfl) (fun _ _ _ h => h) (Or.inl ⟨by rfl, ?_⟩) ?_ ?_
  rotate_left
  · intro w'
    go_simp
    with_reducible rfl
  rotate_left
  · simp only [Act.put, List.setIfInBounds_toArray, List.set_cons_zero, List.set_cons_succ, i64_w, i32_w]
    rfl
  refine pure_ (i := 8) (N := some 13) (v := ?_) (a' := ?_) #[true, true, true, true, false, true, false, false, true, false, false, false] rfl rfl (by kernel_rfl) (fun _ _ _ h => h) (Or.inl ⟨by rfl, ?_⟩) ?_ ?_
  rotate_left
  · intro w'
    go_simp
    with_reducible rfl
  rotate_left
  · simp only [Act.put, List.setIfInBounds_toArray, List.set_cons_zero, List.set_cons_succ, i64_w, i32_w]
    rfl
  refine pure_ (i := 9) (N := some 14) (v := ?_) (a' := ?_) #[true, true, true, true, false, true, false, false, true, true, false, false] rfl rfl (by kernel_rfl) (fun _ _ _ h => h) (Or.inl ⟨by rfl, ?_⟩) ?_ ?_
  rotate_left
  · intro w'
    go_simp
    with_reducible rfl
  rotate_left
  · simp only [Act.put, List.setIfInBounds_toArray, List.set_cons_zero, List.set_cons_succ, i64_w, i32_w]
    rfl
  refine take_ (i := 4) (N := some 9) (v := ?_) (a' := ?_) #[true, true, true, true, true, true, false, false, true, true, false, false] rfl rfl (by kernel_rfl) (fun _ _ _ h => h) (Or.inl ⟨by rfl, ?_⟩) hHeld ?_ ?_
  rotate_left
  · intro w' s0
    go_simp
    with_reducible rfl
  rotate_left
  · simp only [Act.put, List.setIfInBounds_toArray, List.set_cons_zero, List.set_cons_succ, i64_w, i32_w]
    rfl
  refine pure_ (i := 6) (N := some 11) (v := ?_) (a' := ?_) #[true, true, true, true, true, true, true, false, true, true, false, false] rfl rfl (by kernel_rfl) (fun _ _ _ h => h) (Or.inl ⟨by rfl, ?_⟩) ?_ ?_
  rotate_left
  · intro w'
    go_simp
    with_reducible rfl
  rotate_left
  · simp only [Act.put, List.setIfInBounds_toArray, List.set_cons_zero, List.set_cons_succ, i64_w, i32_w]
    rfl
  refine pure_ (i := 7) (N := some 12) (v := ?_) (a' := ?_) #[true, true, true, true, true, true, true, true, true, true, false, false] rfl rfl (by kernel_rfl) (fun _ _ _ h => h) (Or.inl ⟨by rfl, ?_⟩) ?_ ?_
  rotate_left
  · intro w'
    go_simp
    with_reducible rfl
  rotate_left
  · simp only [Act.put, List.setIfInBounds_toArray, List.set_cons_zero, List.set_cons_succ, i64_w, i32_w]
    rfl
  refine pure_ (i := 10) (N := some 15) (v := ?_) (a' := ?_) #[true, true, true, true, true, true, true, true, true, true, true, false] rfl rfl (by kernel_rfl) (fun _ _ _ h => h) (Or.inl ⟨by rfl, ?_⟩) ?_ ?_
  rotate_left
  · intro w'
    go_simp
    with_reducible rfl
  rotate_left
  · simp only [Act.put, List.setIfInBounds_toArray, List.set_cons_zero, List.set_cons_succ, i64_w, i32_w]
    rfl
  refine pure_ (i := 11) (N := some 4) (v := ?_) (a' := ?_) #[true, true, true, true, true, true, true, true, true, true, true, true] rfl rfl (by kernel_rfl) (fun _ _ _ h => h) (Or.inl ⟨by rfl, ?_⟩) ?_ ?_
  rotate_left
  · intro w'
    go_simp
    with_reducible rfl
  rotate_left
  · simp only [Act.put, List.setIfInBounds_toArray, List.set_cons_zero, List.set_cons_succ, i64_w, i32_w]
    rfl
  refine done_ (by kernel_rfl) ?_

  go_wp2_with fail
  go_ret
  exact ⟨rfl, rfl⟩
end Go.Proofs.Ytlhlaadnifkdhaa.Sr
