/- A store that nobody made: its methods, walked. No law is proved here. -/
import Derived.Test.YtlhlaadnifkdhaaM3
namespace Go.Proofs.Ytlhlaadnifkdhaa.Sr
open Go.RowKit Go.Proofs.YtlhlaadnifkdhaaW.PrintWords Go.Proofs.YtlhlaadnifkdhaaW.PrintLast Go.Proofs.YtlhlaadnifkdhaaW.PrintMore Go.Proofs.Ytlhlaadnifkdhaa.Q Go.Proofs.Ytlhlaadnifkdhaa.Own Go.Proofs.Ytlhlaadnifkdhaa.Nmd
set_option linter.unusedVariables false
set_option linter.unusedSimpArgs false
attribute [local go_sem ↓] Go.wp_at_zero Go.wp_at_succ

/-- A store that nobody made. -/
def DeadS (w : World) (v : Value) : Prop := v = .pointer none ∨ ∃ b, v = ptr b ∧ w.cell? ⟨b, 0, none⟩ = some (.map none)
theorem cellb {w w' : World} {a : Addr} {v : Value} (hb : Below w.heap.size w w') (h : w.cell? a = some v) : w'.cell? a = some v := (hb.cell (World.block_lt_of_cell? w _ h)).trans h
theorem DeadS.below {w w' : World} {v : Value} (h : DeadS w v) (hb : Below w.heap.size w w') : DeadS w' v := by
  rcases h with h | ⟨b, h1, h2⟩
  · exact .inl h
  · exact .inr ⟨b, h1, cellb hb h2⟩
theorem DeadS.ptr {w : World} {v : Value} (h : DeadS w v) : ∃ q, v = .pointer q := by
  rcases h with h | ⟨b, h, _⟩
  · exact ⟨_, h⟩
  · exact ⟨_, h⟩
set_option maxRecDepth 100000 in
theorem dead_none {w : World} {v : Value} (h : DeadS w v) : Calls Try.prog 26 #[v] w fun e w' => e = .returned (.bool true) ∧ w = w' := by
  rcases h with rfl | ⟨b, rfl, h0⟩
  · go_enter Try.func26, Try.ntmps26
    go_wp2
    go_ret
    exact ⟨rfl, rfl⟩
  · have huf : ∀ W : World, (binOp .eql 56 (.map none) (.map none)).run Try.prog W = .ok (.bool true) W := fun W => by kernel_rfl
    go_enter Try.func26, Try.ntmps26
    go_wp2
    go_ret
    exact ⟨rfl, rfl⟩
set_option maxRecDepth 100000 in
theorem dead_add {w : World} {v : Value} (h : DeadS w v) (l : Value) (x0 x1 : Int) : Calls Try.prog 9 #[v, l, .agg #[.int .i64 x0, .int .i64 x1]] w fun e w' => e = .returned (.int .i64 1) ∧ Below w.heap.size w w' := by
  have hu26 := Try.underlying26
  have HB : Aside0 (Below w.heap.size w (w.alloc (.cells #[.int .i64 x0, .int .i64 x1] 26))) := ⟨(Below.refl _ w).alloc (Nat.le_refl _) _⟩
  have HN := Aside0.mk (dead_none (h.below HB.out))
  clear h
  go_enter Try.func9, Try.ntmps9
  go_wp2_with fail
  refine HN.out.mono ?_
  rintro e w1 ⟨rfl, rfl⟩
  go_wp2_with fail
  go_ret
  exact ⟨rfl, HB.out⟩
set_option maxRecDepth 100000 in
theorem dead_exp {w : World} {v : Value} (h : DeadS w v) (a : Int) : Calls Try.prog 10 #[v, .int .i64 a] w fun e w' => e = .returned (.int .i64 0) ∧ w = w' := by
  have HN := Aside0.mk (dead_none h)
  clear h
  go_enter Try.func10, Try.ntmps10
  go_wp2_with fail
  refine HN.out.mono ?_
  rintro e w1 ⟨rfl, rfl⟩
  go_wp2_with fail
  go_ret
  exact ⟨rfl, rfl⟩
set_option maxRecDepth 100000 in
theorem dead_len {w : World} {v : Value} (h : DeadS w v) : Calls Try.prog 11 #[v] w fun e w' => e = .returned (.int .i64 0) ∧ w = w' := by
  have HN := Aside0.mk (dead_none h)
  clear h
  go_enter Try.func11, Try.ntmps11
  go_wp2_with fail
  refine HN.out.mono ?_
  rintro e w1 ⟨rfl, rfl⟩
  go_wp2_with fail
  go_ret
  exact ⟨rfl, rfl⟩
set_option maxRecDepth 100000 in
theorem dead_finds {w : World} {v : Value} (h : DeadS w v) (f : Value) : Calls Try.prog 37 #[v, f] w fun e w' => e = .returned (.slice none 0 0) ∧ w = w' := by
  have HN := Aside0.mk (dead_none h)
  clear h
  go_enter Try.func37, Try.ntmps37
  go_wp2_with fail
  refine HN.out.mono ?_
  rintro e w1 ⟨rfl, rfl⟩
  go_wp2_with fail
  go_ret
  exact ⟨rfl, rfl⟩
set_option maxRecDepth 100000 in
theorem dead_all {w : World} {v : Value} (h : DeadS w v) : Calls Try.prog 15 #[v] w fun e w' => e = .returned (.slice none 0 0) ∧ w = w' := by
  have HN := Aside0.mk (dead_finds h)
  clear h
  go_enter Try.func15, Try.ntmps15
  go_wp2_with fail
  refine (HN.out _).mono ?_
  rintro e w1 ⟨rfl, rfl⟩
  go_wp2_with fail
  go_ret
  exact ⟨rfl, rfl⟩
set_option maxRecDepth 100000 in
theorem dead_sel {w : World} {v : Value} (h : DeadS w v) (a b : Int) : Calls Try.prog 16 #[v, .slice none 0 0, .int .i64 a, .int .i64 b] w fun e w' => e = .returned (.slice none 0 0) ∧ Below w.heap.size w w' := by
  have HB : Aside0 (Below w.heap.size w (((w.alloc (.cells #[.slice none 0 0] 37)).alloc (.cells #[.int .i64 a] 3)).alloc (.cells #[.int .i64 b] 3))) := ⟨(((Below.refl _ w).alloc (Nat.le_refl _) _).alloc (by simp) _).alloc (by simp; omega) _⟩
  have HN := Aside0.mk (dead_finds (h.below HB.out))
  clear h
  go_enter Try.func16, Try.ntmps16
  go_wp2_with fail
  refine (HN.out _).mono ?_
  rintro e w1 ⟨rfl, rfl⟩
  go_wp2_with fail
  go_ret
  exact ⟨rfl, HB.out⟩
theorem lit_act (w : World) (x : AT) (cs : Array Value) (hx : kA.K w x cs.toList) : Kd.C kA (w.alloc (.cells cs 46)) (some ⟨w.heap.size, 0, none⟩) 1 [x] := by
  have hx' : kA.K (w.alloc (.cells cs 46)) x cs.toList := Kd.K_below _ ((Below.refl _ w).alloc (Nat.le_refl _) _) hx
  have hr : Reps (kA.K (w.alloc (.cells cs 46))) kA.sz [x] cs.toList := by
    have := Reps.snoc (Reps.none (kA.K (w.alloc (.cells cs 46))) kA.sz) hx' (Kd.K_len _ hx')
    simpa using this
  have hl := OwnRow.lit (e := 46) w 0 hr (Nat.zero_le _) (show 1 ≤ 9223372036854775807 by omega)
  rw [Array.toArray_toList] at hl
  obtain ⟨A, c, e, _, h⟩ := OwnRow.reads hl
  injection e with e1 e2 e3
  subst e1
  exact h
end Go.Proofs.Ytlhlaadnifkdhaa.Sr
