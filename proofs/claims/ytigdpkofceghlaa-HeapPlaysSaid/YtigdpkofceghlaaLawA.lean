/- The chapter's examples, and laws of heaps, walked: each returns true. -/
import Derived.Test.YtigdpkofceghlaaHeapAll
import Derived.Test.YtigdpkofceghlaaOpens
import Derived.Test.YtigdpkofceghlaaQ9
import Derived.Test.YtigdpkofceghlaaQ8
import Derived.Test.YtigdpkofceghlaaQ7
import Derived.Test.YtigdpkofceghlaaQ6
namespace Go.Proofs.Ytigdpkofceghlaa.Hp
open Go.RowKit Go.Proofs.YtigdpkofceghlaaW.PrintWords Go.Proofs.YtigdpkofceghlaaW.PrintLast Go.Proofs.YtigdpkofceghlaaW.PrintMore Go.Proofs.Ytigdpkofceghlaa.Q Go.Proofs.Ytigdpkofceghlaa.Own
set_option linter.unusedVariables false
set_option linter.unusedSimpArgs false
attribute [local go_sem ↓] Go.wp_at_zero Go.wp_at_succ

def TruePost (w : World) (e : Ending) (w' : World) : Prop := e = .returned (.bool true) ∧ Below w.heap.size w w'
theorem lit_three (W : World) (x y z : S29) : Kd.C k29 (W.alloc (.cells #[.int .u32 x.f0, .int .i64 x.f1, .int .u32 y.f0, .int .i64 y.f1, .int .u32 z.f0, .int .i64 z.f1] 29)) (some ⟨W.heap.size, 0, none⟩) 3 [x, y, z] := by
  have h : Kd.R k29 29 (W.alloc (.cells #[.int .u32 x.f0, .int .i64 x.f1, .int .u32 y.f0, .int .i64 y.f1, .int .u32 z.f0, .int .i64 z.f1] 29)) 0 (fun _ => True) (.slice (some ⟨W.heap.size, 0, none⟩) 3 3) [x, y, z] :=
    ⟨fun _ _ => trivial, OwnRow.lit (ps := [x, y, z]) W 0 (inner := flatT [x, y, z]) (reps_flat _ _ _ _) (Nat.zero_le _) (show 3 ≤ 9223372036854775807 by decide)⟩
  exact (Kd.R_reads' h).2.2
set_option maxHeartbeats 8000000 in
set_option maxRecDepth 100000 in
theorem awake_calls (w : World) : Calls Try.prog 10 #[] w (TruePost w) := by
  have hu29 := Try.underlying29
  have HN := Aside0.mk (new_calls (c := 3) (lit_three w ⟨7, 5⟩ ⟨3, 5⟩ ⟨9, 2⟩) (by intro x hx; simp at hx; rcases hx with rfl | rfl | rfl <;> exact ⟨by decide, by decide⟩) (by decide))
  have hs : newS [⟨7, 5⟩, ⟨3, 5⟩, ⟨9, 2⟩] = [⟨9, 2⟩, ⟨3, 5⟩, ⟨7, 5⟩] := by rfl
  rw [hs] at HN
  clear hs
  have HB0 : Aside0 (Below w.heap.size w (w.alloc (.cells #[.int .u32 7, .int .i64 5, .int .u32 3, .int .i64 5, .int .u32 9, .int .i64 2] 29))) := ⟨(Below.refl _ w).alloc (Nat.le_refl _) _⟩
  go_enter Try.func10, Try.ntmps10
  go_wp2_with fail
  refine HN.out.mono ?_
  rintro e w2 ⟨p, rfl, hA, hB⟩
  have HA := Aside0.mk hA
  have HB := Aside0.mk (HB0.out.trans (hB.mono (by simp)))
  have HW : Aside0 (w.heap.size ≤ w2.heap.size) := ⟨HB.out.size⟩
  clear hA hB HN HB0
  have HBb : Aside0 (w.heap.size ≤ (w.alloc (.cells #[.int .u32 7, .int .i64 5, .int .u32 3, .int .i64 5, .int .u32 9, .int .i64 2] 29)).heap.size) := ⟨by simp⟩
  generalize (w.alloc (.cells #[.int .u32 7, .int .i64 5, .int .u32 3, .int .i64 5, .int .u32 9, .int .i64 2] 29)).heap.size = B at HA HBb
  go_wp2_with fail
  refine (all_calls HA.out).mono ?_
  rintro e w3 ⟨v, rfl, hr, hb⟩
  have HA3 := Aside0.mk (HA.out.row hb hr).swap
  have HB3 := Aside0.mk (HB.out.trans (hb.mono HW.out))
  clear hr hb HA HB HW
  go_wp2_with fail
  refine (push_calls HA3.out ⟨3, 1⟩ ⟨by decide, by decide⟩ (by decide)).mono ?_
  rintro e w4 ⟨rfl, hA, hB⟩
  rw [show pushE [⟨9, 2⟩, ⟨3, 5⟩, ⟨7, 5⟩] (⟨3, 1⟩ : S29) = 2 from rfl]
  rw [show pushS [⟨9, 2⟩, ⟨3, 5⟩, ⟨7, 5⟩] (⟨3, 1⟩ : S29) = [⟨9, 2⟩, ⟨3, 5⟩, ⟨7, 5⟩] from rfl] at hA
  have HA4 := Aside0.mk hA
  have HB4 := Aside0.mk hB
  clear hA hB
  go_wp2_with fail
  refine (pop_calls HA4.out).mono ?_
  rintro e w5 ⟨rfl, hA, hB⟩
  dsimp only [List.tail] at hA
  have HA5 := Aside0.mk hA
  have HB5 := Aside0.mk (HB4.out.trans hB)
  clear hA hB HB4
  dsimp only [List.headD, List.tail, List.isEmpty, pairV, aggT, Bool.not_false]
  go_wp2_with fail
  have HA6 := Aside0.mk (HA5.out.box #[.int .u32 9, .int .i64 2] 29).swap
  have HB6 := Aside0.mk (HB5.out.alloc HA5.out.size (.cells #[.int .u32 9, .int .i64 2] 29))
  generalize w5.alloc (.cells #[.int .u32 9, .int .i64 2] 29) = w6 at HA6 HB6 ⊢
  clear HA5 HB5 HA4
  generalize w5.heap.size = b5 at HA6 ⊢
  refine (remove_calls HA6.out 7).mono ?_
  rintro e w7 ⟨rfl, hA, hB⟩
  rw [show hasL [⟨3, 5⟩, ⟨7, 5⟩] 7 = true from rfl]
  rw [show withoutL [⟨3, 5⟩, ⟨7, 5⟩] 7 = [⟨3, 5⟩] from rfl] at hA
  have HA7 := Aside0.mk hA
  have HB7 := Aside0.mk (HB6.out.trans hB)
  clear hA hB HA6 HB6
  go_wp2_with fail
  refine (remove_calls HA7.out 7).mono ?_
  rintro e w8 ⟨rfl, hA, hB⟩
  rw [show hasL [⟨3, 5⟩] 7 = false from rfl]
  rw [show withoutL [⟨3, 5⟩] 7 = [⟨3, 5⟩] from rfl] at hA
  have HA8 := Aside0.mk hA
  have HB8 := Aside0.mk (HB7.out.trans hB)
  clear hA hB HA7 HB7
  go_wp2_with fail
  refine (pop_calls HA8.out).mono ?_
  rintro e w9 ⟨rfl, hA, hB⟩
  dsimp only [List.tail] at hA
  have HA9 := Aside0.mk hA
  have HB9 := Aside0.mk (HB8.out.trans hB)
  clear hA hB HA8 HB8
  dsimp only [List.headD, List.tail, List.isEmpty, pairV, aggT, Bool.not_false]
  go_wp2_with fail
  have HA10 := Aside0.mk (HA9.out.box #[.int .u32 3, .int .i64 5] 29).swap
  have HB10 := Aside0.mk (HB9.out.alloc HA9.out.size (.cells #[.int .u32 3, .int .i64 5] 29))
  generalize w9.alloc (.cells #[.int .u32 3, .int .i64 5] 29) = w10 at HA10 HB10 ⊢
  clear HA9 HB9
  generalize w9.heap.size = b9 at HA10 ⊢
  refine (pop_calls HA10.out).mono ?_
  rintro e w11 ⟨rfl, hA, hB⟩
  dsimp only [List.tail] at hA
  dsimp only [List.headD, List.tail, List.isEmpty, pairV, aggT, z29, Bool.not_true]
  have HB11 : Aside0 (Below w.heap.size w w11) := ⟨HB3.out.trans ((HB10.out.trans hB).mono HBb.out)⟩
  obtain ⟨q1, q2, q3, q4⟩ := Has.box_cell hA (b := b5) (cs := #[.int .u32 9, .int .i64 2]) (t := 29) (by simp)
  obtain ⟨r1, r2, r3, r4⟩ := Has.box_cell hA (b := b9) (cs := #[.int .u32 3, .int .i64 5]) (t := 29) (by simp)
  have q10 : w11.cell? ⟨b5, 0, none⟩ = some (.int .u32 9) := q1 0
  have q11 : w11.cell? ⟨b5, 1, none⟩ = some (.int .i64 2) := q1 1
  have r10 : w11.cell? ⟨b9, 0, none⟩ = some (.int .u32 3) := r1 0
  have r11 : w11.cell? ⟨b9, 1, none⟩ = some (.int .i64 5) := r1 1
  obtain ⟨A, c, rfl, hc, hC⟩ := hA.reads (d := k29) (e := 29) (v := v) (xs := [⟨9, 2⟩, ⟨3, 5⟩, ⟨7, 5⟩]) (by simp)
  obtain ⟨ad, rfl, s0, s1⟩ := at_T29 hC 1 (by decide) (by decide)
  have sz : ad.block < w11.heap.size := by
    have e : (w11.cell? (ad.add (1 * 2))).isSome = true := by rw [show w11.cell? (ad.add (1 * 2)) = some (.int .u32 3) from s0]; rfl
    unfold World.cell? at e
    split at e
    · rename_i hh
      exact blk_lt hh
    · cases e
  have s0' : w11.cell? ⟨ad.block, ad.off + 2, none⟩ = some (.int .u32 3) := s0
  have s1' : w11.cell? ⟨ad.block, ad.off + 2 + 1, none⟩ = some (.int .i64 5) := s1
  clear q1 q2 q4 r1 r2 r4 hA hB HA10 HB10 HB3 HBb hC s0 s1
  go_wp2
  go_ret
  exact ⟨rfl, (HB11.out.alloc HB11.out.size _)⟩
end Go.Proofs.Ytigdpkofceghlaa.Hp
