/- Bytes appended to a slice that is full: a new row. No law is proved here. -/
import Derived.Test.YtibnakpefjjoiaaFileK
import Derived.ArgAppend
import Derived.Deep.AppendSrc
import Derived.Deep.Upon
namespace Go.Proofs.Ytibnakpefjjoiaa.Fs
open Go.RowKit Go.Proofs.YtibnakpefjjoiaaW.PrintWords Go.Proofs.YtibnakpefjjoiaaW.PrintLast Go.Proofs.YtibnakpefjjoiaaW.PrintMore Go.Proofs.Ytibnakpefjjoiaa.Q Go.Proofs.Ytibnakpefjjoiaa.Own
set_option linter.unusedVariables false
set_option linter.unusedSimpArgs false

theorem cells_u8 {w : World} {ad : Addr} {xs : List Int} (h : Kd.C kB w (some ad) xs.length xs) : ∀ j u, (encs (Value.int .u8) xs)[j]? = some u → w.cell? (ad.add j) = some u := by
  intro j u hu
  unfold encs at hu
  rw [List.getElem?_map] at hu
  obtain ⟨x, hx, rfl⟩ := Option.map_eq_some_iff.1 hu
  have hj : j < xs.length := (List.getElem?_eq_some_iff.1 hx).1
  obtain ⟨ad2, e, hc⟩ := h.2.2 (by omega)
  cases e
  obtain ⟨c, h1, h2, h3⟩ := hc j x hx
  have h2' : c = [.int .u8 x] := h2
  have := h3 0 (.int .u8 x) (by rw [h2']; rfl)
  have e : j * kB.sz + 0 = j := Nat.mul_one j
  rw [e] at this
  exact this
theorem F_of_R {w : World} {base n c : Nat} {ok : Nat → Prop} {A : Option Addr} {xs : List Int} (h : Kd.R kB 5 w base ok (.slice A n c) xs) : Kd.F kB w ok A xs.length xs := fun W' hW => (Kd.R_reads' (Kd.R_step h (fun k hk hlt => hW k hk hlt))).2.2
theorem run_empty {w : World} (ty : TypeId) (A A2 : Option Addr) (n c2 : Nat) : (Builtin.append_ #[23, 23] ty #[.slice A n n, .slice A2 0 c2]).run Try.prog w = .ok (.slice A n n) w := by
  obtain ⟨i0, hi, hz0, hz1, hz2⟩ := info_parts inf5
  refine run_append_nothing w _ _ ty 5 i0 Try.underlying23 hi A n n (Nat.le_refl _) _ ?_
  cases A2 with
  | none => exact Src.ofNil _ Try.underlying23 c2
  | some ad => exact Src.ofSlice _ Try.underlying23 ad 0 c2 [] (by simp) (fun j u h => by simp at h) (fun u h => by simp at h)
theorem full_append {w : World} {ok : Nat → Prop} {A A2 : Option Addr} {c2 : Nat} {xs ys : List Int} (ty : TypeId) (hF : Kd.F kB w ok A xs.length xs) (hC : Kd.C kB w A2 ys.length ys) (hm : xs.length + ys.length ≤ 100000000) :
    ∃ v1 w1 A1 c1, (Builtin.append_ #[23, 23] ty #[.slice A xs.length xs.length, .slice A2 ys.length c2]).run Try.prog w = .ok v1 w1 ∧ Below w.heap.size w w1 ∧ v1 = .slice A1 (xs ++ ys).length c1 ∧ (xs ++ ys).length ≤ c1 ∧ Kd.F kB w1 (fun k => ok k ∨ w.heap.size ≤ k) A1 (xs ++ ys).length (xs ++ ys) := by
  obtain ⟨i0, hi, hz0, hz1, hz2⟩ := info_parts inf5
  rcases ys with _ | ⟨y, ys⟩
  · refine ⟨_, w, A, xs.length, run_empty ty A A2 xs.length c2, Below.refl _ _, by rw [List.append_nil], by rw [List.append_nil]; exact Nat.le_refl _, ?_⟩
    rw [List.append_nil]
    exact Kd.F_mono hF fun k hk => .inl hk
  · obtain ⟨ad2, e2, -⟩ := hC.2.2 (by simp)
    subst e2
    have hnew := cells_u8 hC
    have hlen : (encs (Value.int .u8) (y :: ys)).length = (y :: ys).length * 1 := by simp [encs]
    have fin : ∀ {v1 : Value} {w1 : World}, w1.ownsRow w.heap.size 5 1 v1 (xs.length + (y :: ys).length) (encs (Value.int .u8) xs ++ encs (Value.int .u8) (y :: ys)) → w.grownBy w1 none →
        Below w.heap.size w w1 ∧ ∃ A1 c1, v1 = .slice A1 (xs ++ y :: ys).length c1 ∧ (xs ++ y :: ys).length ≤ c1 ∧ Kd.F kB w1 (fun k => ok k ∨ w.heap.size ≤ k) A1 (xs ++ y :: ys).length (xs ++ y :: ys) := by
      intro v1 w1 ho hg
      have hR : Kd.R kB 5 w1 w.heap.size (fun k => ok k ∨ w.heap.size ≤ k) v1 (xs ++ y :: ys) := by
        have h0 : Kd.R kB 5 w1 w.heap.size (fun _ => True) v1 (xs ++ y :: ys) := Kd.R_of_own (by rw [List.length_append]; unfold encs at ho ⊢; rw [List.map_append]; exact ho) (fun _ _ => trivial)
        exact Kd.R_mono (Kd.R_bound h0) fun k hk => .inr hk.2.1
      obtain ⟨A1, c1, rfl, h1, -⟩ := Kd.R_reads hR
      exact ⟨⟨hg.os, hg.tape, hg.output, hg.size, fun k hk => hg.block k hk (by simp)⟩, A1, c1, rfl, h1, F_of_R hR⟩
    cases A with
    | none =>
      have hx : xs = [] := by
        rcases xs with _ | ⟨x, xs⟩
        · rfl
        · obtain ⟨ad, e, _⟩ := (Kd.F_now hF).2.2 (by simp)
          cases e
      subst hx
      obtain ⟨v1, w1, hrun, h1, h2, -⟩ := run_append_own (P := Try.prog) (w := w) w.heap.size 23 ty 5 i0 (.int .u8 0) 1 1 Try.underlying23 hi hz0 hz1 hz2 rfl (by decide) (.slice none 0 0) 0 [] (own_nil _ _ _ _) ad2 (y :: ys).length c2 (encs (Value.int .u8) (y :: ys)) hlen hnew (fun u hu => by unfold encs at hu; obtain ⟨_, _, rfl⟩ := List.mem_map.1 hu; rfl) (by unfold maxLen; omega) (by omega) (Nat.le_refl _)
      obtain ⟨f1, A1, c1, f2, f3, f4⟩ := fin h1 h2
      exact ⟨v1, w1, A1, c1, hrun, f1, f2, f3, f4⟩
    | some ad =>
      have hold := cells_u8 (Kd.F_now hF)
      obtain ⟨v1, w1, hrun, h1, h2⟩ := run_append_arg_grows (P := Try.prog) w 23 ty 5 i0 (.int .u8 0) 1 1 Try.underlying23 hi hz0 hz1 hz2 rfl (by decide) ad xs.length xs.length (encs (Value.int .u8) xs) (by simp [encs]) hold ad2 (y :: ys).length c2 (encs (Value.int .u8) (y :: ys)) hlen hnew (by simp) (by unfold maxLen; omega) (by omega)
      obtain ⟨f1, A1, c1, f2, f3, f4⟩ := fin h1 h2
      exact ⟨v1, w1, A1, c1, hrun, f1, f2, f3, f4⟩
end Go.Proofs.Ytibnakpefjjoiaa.Fs
