/- A store that nobody made: its methods, walked. No law is proved here. -/
import Derived.Test.YtibnakpefjjoiaaFileW
import Derived.Test.YtibnakpefjjoiaaQ11
namespace Go.Proofs.Ytibnakpefjjoiaa.Fs
open Go.RowKit Go.Proofs.YtibnakpefjjoiaaW.PrintWords Go.Proofs.YtibnakpefjjoiaaW.PrintLast Go.Proofs.YtibnakpefjjoiaaW.PrintMore Go.Proofs.Ytibnakpefjjoiaa.Q Go.Proofs.Ytibnakpefjjoiaa.Own
set_option linter.unusedVariables false
set_option linter.unusedSimpArgs false
attribute [local go_sem ↓] Go.wp_at_zero Go.wp_at_succ

/-- A store that nobody made. -/
def DeadS (w : World) (v : Value) : Prop := v = .pointer none ∨ ∃ b, v = ptr b ∧ w.cell? ⟨b, 0, none⟩ = some (.map none)
theorem DeadS.below {w w' : World} {v : Value} (h : DeadS w v) (hb : Below w.heap.size w w') : DeadS w' v := by
  rcases h with h | ⟨b, h1, h2⟩
  · exact .inl h
  · exact .inr ⟨b, h1, pw_cell_below hb h2⟩
theorem DeadS.ptr {w : World} {v : Value} (h : DeadS w v) : ∃ q, v = .pointer q := by
  rcases h with h | ⟨b, h, _⟩
  · exact ⟨_, h⟩
  · exact ⟨_, h⟩
set_option maxRecDepth 100000 in
theorem fdead_none {w : World} {v : Value} (h : DeadS w v) : Calls Try.prog 33 #[v] w fun e w' => e = .returned (.bool true) ∧ w = w' := by
  rcases h with rfl | ⟨b, rfl, h0⟩
  · go_enter Try.func33, Try.ntmps33
    go_wp2
    go_ret
    exact ⟨rfl, rfl⟩
  · have huf : ∀ W : World, (binOp .eql 60 (.map none) (.map none)).run Try.prog W = .ok (.bool true) W := fun W => by kernel_rfl
    go_enter Try.func33, Try.ntmps33
    go_wp2
    go_ret
    exact ⟨rfl, rfl⟩
set_option maxRecDepth 100000 in
theorem fdead_refuse {w : World} {v : Value} (h : DeadS w v) : Calls Try.prog 30 #[v] w fun e w' => e = .returned (.int .i64 1) ∧ w = w' := by
  have HN := Aside0.mk (fdead_none h)
  clear h
  go_enter Try.func30, Try.ntmps30
  go_wp2_with fail
  refine HN.out.mono ?_
  rintro e w1 ⟨rfl, rfl⟩
  go_wp2_with fail
  go_ret
  exact ⟨rfl, rfl⟩
set_option maxRecDepth 100000 in
theorem fdead_dead {w : World} {v : Value} (h : DeadS w v) : Calls Try.prog 19 #[v] w fun e w' => e = .returned (.bool false) ∧ w = w' := by
  have HN := Aside0.mk (fdead_none h)
  clear h
  go_enter Try.func19, Try.ntmps19
  go_wp2_with fail
  refine HN.out.mono ?_
  rintro e w1 ⟨rfl, rfl⟩
  go_wp2_with fail
  go_ret
  exact ⟨rfl, rfl⟩
set_option maxRecDepth 100000 in
theorem fdead_acts {w : World} {v : Value} (h : DeadS w v) : Calls Try.prog 15 #[v] w fun e w' => e = .returned (.int .i64 0) ∧ w = w' := by
  have HN := Aside0.mk (fdead_none h)
  clear h
  go_enter Try.func15, Try.ntmps15
  go_wp2_with fail
  refine HN.out.mono ?_
  rintro e w1 ⟨rfl, rfl⟩
  go_wp2_with fail
  go_ret
  exact ⟨rfl, rfl⟩
set_option maxRecDepth 100000 in
theorem fdead_names {w : World} {v : Value} (h : DeadS w v) : Calls Try.prog 11 #[v] w fun e w' => e = .returned (.slice none 0 0) ∧ w = w' := by
  have HN := Aside0.mk (fdead_none h)
  clear h
  go_enter Try.func11, Try.ntmps11
  go_wp2_with fail
  refine HN.out.mono ?_
  rintro e w1 ⟨rfl, rfl⟩
  go_wp2_with fail
  go_ret
  exact ⟨rfl, rfl⟩
set_option maxRecDepth 100000 in
theorem fdead_power {w : World} {v : Value} (h : DeadS w v) (n : Int) : Calls Try.prog 17 #[v, .int .i64 n] w fun e w' => e = .returned (.tuple #[]) ∧ w = w' := by
  have HN := Aside0.mk (fdead_none h)
  clear h
  go_enter Try.func17, Try.ntmps17
  go_wp2_with fail
  refine HN.out.mono ?_
  rintro e w1 ⟨rfl, rfl⟩
  go_wp2_with fail
  go_end0
  exact ⟨rfl, rfl⟩
set_option maxRecDepth 100000 in
theorem fdead_crash {w : World} {v : Value} (h : DeadS w v) (k : Value) : Calls Try.prog 20 #[v, k] w fun e w' => e = .returned (.tuple #[]) ∧ w = w' := by
  have HN := Aside0.mk (fdead_none h)
  clear h
  go_enter Try.func20, Try.ntmps20
  go_wp2_with fail
  refine HN.out.mono ?_
  rintro e w1 ⟨rfl, rfl⟩
  go_wp2_with fail
  refine bodyPost_ret (v := .tuple #[]) (by simp [results, Try.results20, go_sem]) rfl ?_
  exact ⟨rfl, rfl⟩
set_option maxRecDepth 100000 in
theorem fdead_append {w : World} {v : Value} (h : DeadS w v) (s : ByteArray) (b : Value) : Calls Try.prog 10 #[v, .string s, b] w fun e w' => e = .returned (.int .i64 1) ∧ w = w' := by
  have HN := Aside0.mk (fdead_refuse h)
  clear h
  go_enter Try.func10, Try.ntmps10
  go_wp2_with fail
  refine HN.out.mono ?_
  rintro e w1 ⟨rfl, rfl⟩
  go_wp2_with fail
  go_ret
  exact ⟨rfl, rfl⟩
set_option maxRecDepth 100000 in
theorem fdead_with {w : World} {v : Value} (h : DeadS w v) (s : Value) (f : Value) : Calls Try.prog 36 #[v, s, f] w fun e w' => e = .returned (.int .i64 1) ∧ w = w' := by
  have HN := Aside0.mk (fdead_refuse h)
  clear h
  go_enter Try.func36, Try.ntmps36
  go_wp2_with fail
  refine HN.out.mono ?_
  rintro e w1 ⟨rfl, rfl⟩
  go_wp2_with fail
  go_ret
  exact ⟨rfl, rfl⟩
set_option maxHeartbeats 1000000 in
set_option maxRecDepth 100000 in
theorem fdead_size {w : World} {v : Value} (h : DeadS w v) (s : ByteArray) : Calls Try.prog 29 #[v, .string s] w fun e w' => e = .returned (.tuple #[.int .i64 0, .int .i64 1]) ∧ Below w.heap.size w w' := by
  obtain ⟨q, rfl⟩ := h.ptr
  have HB : Aside0 (Below w.heap.size w (w.alloc (.cells #[.int .i64 0] 3))) := ⟨(below_alloc (Below.refl _ w) _)⟩
  have HW := Aside0.mk (fun s f => fdead_with (h.below HB.out) s f)
  clear h
  go_enter Try.func29, Try.ntmps29
  go_wp2_with fail
  refine (HW.out _ _).mono ?_
  rintro e w1 ⟨rfl, rfl⟩
  clear HW
  go_wp2_with fail
  refine bodyPost_ret (v := .tuple #[.int .i64 0, .int .i64 1]) (by simp [results, Try.results29, go_sem]) rfl ?_
  exact ⟨rfl, HB.out⟩
set_option maxHeartbeats 1000000 in
set_option maxRecDepth 100000 in
theorem fdead_synced {w : World} {v : Value} (h : DeadS w v) (s : ByteArray) : Calls Try.prog 23 #[v, .string s] w fun e w' => e = .returned (.tuple #[.int .i64 0, .int .i64 1]) ∧ Below w.heap.size w w' := by
  obtain ⟨q, rfl⟩ := h.ptr
  have HB : Aside0 (Below w.heap.size w (w.alloc (.cells #[.int .i64 0] 3))) := ⟨(below_alloc (Below.refl _ w) _)⟩
  have HW := Aside0.mk (fun s f => fdead_with (h.below HB.out) s f)
  clear h
  go_enter Try.func23, Try.ntmps23
  go_wp2_with fail
  refine (HW.out _ _).mono ?_
  rintro e w1 ⟨rfl, rfl⟩
  clear HW
  go_wp2_with fail
  refine bodyPost_ret (v := .tuple #[.int .i64 0, .int .i64 1]) (by simp [results, Try.results23, go_sem]) rfl ?_
  exact ⟨rfl, HB.out⟩
set_option maxHeartbeats 1000000 in
set_option maxRecDepth 100000 in
theorem fdead_read {w : World} {v : Value} (h : DeadS w v) (s : ByteArray) : Calls Try.prog 13 #[v, .string s] w fun e w' => e = .returned (.tuple #[.slice none 0 0, .int .i64 1]) ∧ Below w.heap.size w w' := by
  obtain ⟨q, rfl⟩ := h.ptr
  have HB : Aside0 (Below w.heap.size w (w.alloc (.cells #[.slice none 0 0] 23))) := ⟨(below_alloc (Below.refl _ w) _)⟩
  have HW := Aside0.mk (fun s f => fdead_with (h.below HB.out) s f)
  clear h
  go_enter Try.func13, Try.ntmps13
  go_wp2_with fail
  refine (HW.out _ _).mono ?_
  rintro e w1 ⟨rfl, rfl⟩
  clear HW
  go_wp2_with fail
  refine bodyPost_ret (v := .tuple #[.slice none 0 0, .int .i64 1]) (by simp [results, Try.results13, go_sem]) rfl ?_
  exact ⟨rfl, HB.out⟩
set_option maxHeartbeats 1000000 in
set_option maxRecDepth 100000 in
theorem fdead_sync {w : World} {v : Value} (h : DeadS w v) (s : ByteArray) : Calls Try.prog 18 #[v, .string s] w fun e w' => e = .returned (.int .i64 1) ∧ Below w.heap.size w w' := by
  obtain ⟨q, rfl⟩ := h.ptr
  have HB : Aside0 (Below w.heap.size w (w.alloc (.cells #[.pointer q] 24))) := ⟨(below_alloc (Below.refl _ w) _)⟩
  have HW := Aside0.mk (fun s f => fdead_with (h.below HB.out) s f)
  clear h
  go_enter Try.func18, Try.ntmps18
  go_wp2_with fail
  refine (HW.out _ _).mono ?_
  rintro e w1 ⟨rfl, rfl⟩
  clear HW
  go_wp2_with fail
  go_ret
  exact ⟨rfl, HB.out⟩
set_option maxHeartbeats 1000000 in
set_option maxRecDepth 100000 in
theorem fdead_trunc {w : World} {v : Value} (h : DeadS w v) (s : ByteArray) (n : Int) : Calls Try.prog 12 #[v, .string s, .int .i64 n] w fun e w' => e = .returned (.int .i64 1) ∧ Below w.heap.size w w' := by
  obtain ⟨q, rfl⟩ := h.ptr
  have HB : Aside0 (Below w.heap.size w ((w.alloc (.cells #[.pointer q] 24)).alloc (.cells #[.int .i64 n] 3))) := ⟨(below_alloc (below_alloc (Below.refl _ w) _) _)⟩
  have HW := Aside0.mk (fun s f => fdead_with (h.below HB.out) s f)
  clear h
  go_enter Try.func12, Try.ntmps12
  go_wp2_with fail
  refine (HW.out _ _).mono ?_
  rintro e w1 ⟨rfl, rfl⟩
  clear HW
  go_wp2_with fail
  go_ret
  exact ⟨rfl, HB.out⟩
set_option maxHeartbeats 1000000 in
set_option maxRecDepth 100000 in
theorem fdead_rename {w : World} {v : Value} (h : DeadS w v) (s m : ByteArray) : Calls Try.prog 14 #[v, .string s, .string m] w fun e w' => e = .returned (.int .i64 1) ∧ Below w.heap.size w w' := by
  obtain ⟨q, rfl⟩ := h.ptr
  have HB : Aside0 (Below w.heap.size w (((w.alloc (.cells #[.pointer q] 24)).alloc (.cells #[.string s] 9)).alloc (.cells #[.string m] 9))) := ⟨(below_alloc (below_alloc (below_alloc (Below.refl _ w) _) _) _)⟩
  have HW := Aside0.mk (fun s f => fdead_with (h.below HB.out) s f)
  clear h
  go_enter Try.func14, Try.ntmps14
  go_wp2_with fail
  refine (HW.out _ _).mono ?_
  rintro e w1 ⟨rfl, rfl⟩
  clear HW
  go_wp2_with fail
  go_ret
  exact ⟨rfl, HB.out⟩
set_option maxHeartbeats 1000000 in
set_option maxRecDepth 100000 in
theorem fdead_remove {w : World} {v : Value} (h : DeadS w v) (s : ByteArray) : Calls Try.prog 22 #[v, .string s] w fun e w' => e = .returned (.int .i64 1) ∧ Below w.heap.size w w' := by
  obtain ⟨q, rfl⟩ := h.ptr
  have HB : Aside0 (Below w.heap.size w ((w.alloc (.cells #[.pointer q] 24)).alloc (.cells #[.string s] 9))) := ⟨(below_alloc (below_alloc (Below.refl _ w) _) _)⟩
  have HW := Aside0.mk (fun s f => fdead_with (h.below HB.out) s f)
  clear h
  go_enter Try.func22, Try.ntmps22
  go_wp2_with fail
  refine (HW.out _ _).mono ?_
  rintro e w1 ⟨rfl, rfl⟩
  clear HW
  go_wp2_with fail
  go_ret
  exact ⟨rfl, HB.out⟩
end Go.Proofs.Ytibnakpefjjoiaa.Fs
