/- The pure statement of FixedCounts: the program's sums, differences, means are the book's. -/
import Derived.Test.YtpmehejlamddeaaPFixedCountsx1
namespace Go.Proofs.Ytpmehejlamddeaa.Pure
open Go.RowKit Go.Proofs.Ytpmehejlamddeaa.PFixedCounts Go.Proofs.YtpmehejlamddeaaW.PrintWords Go.Proofs.YtpmehejlamddeaaW.PrintLast
set_option linter.unusedVariables false
set_option linter.unusedSimpArgs false

theorem w64 {x : Int} (h0 : -9223372036854775808 ≤ x) (h1 : x ≤ 9223372036854775807) : wrap64 x = x := by unfold wrap64; omega
theorem ev_pos {α : Type} {c : Prop} [Decidable c] {A B : Nat → Option α} {r : α} (hc : c) (h : Ev A r) : Ev (fun k => if c then A k else B k) r := Ev.congr (fun _ => if_pos hc) h
theorem ev_neg {α : Type} {c : Prop} [Decidable c] {A B : Nat → Option α} {r : α} (hc : ¬ c) (h : Ev B r) : Ev (fun k => if c then A k else B k) r := Ev.congr (fun _ => if_neg hc) h
def sat (a : Int) : Int := if a > 4611686018427387903 then 4611686018427387903 else if a < -4611686018427387903 then -4611686018427387903 else a
theorem sat_ref (a : Int) : tocsinref01_Sat.f a = some (sat a) := by
  unfold tocsinref01_Sat.f sat
  split
  · rfl
  · split <;> rfl
theorem sat_prog (a : Int) : fixed_Sat.f a = some (sat a) := by
  unfold fixed_Sat.f sat mn mx
  congr 1
  split <;> split <;> (try split) <;> omega
def add (a b : Int) : Int := sat (wrap64 (sat a + sat b))
theorem add_prog (a b : Int) : fixed_Add.f a b = some (add a b) := by
  unfold fixed_Add.f add
  rw [sat_prog, sat_prog, Option.bind_some, Option.bind_some, sat_prog, Option.bind_some]
theorem add_ref (a b : Int) : tocsinref01_Add.f a b = some (add a b) := by
  unfold tocsinref01_Add.f add
  rw [sat_ref, sat_ref, Option.bind_some, Option.bind_some, sat_ref, Option.bind_some]
theorem sub_same (a b : Int) : tocsinref01_Sub.f a b = fixed_Sub.f a b := by
  unfold tocsinref01_Sub.f fixed_Sub.f
  rw [sat_ref, sat_ref, Option.bind_some, Option.bind_some, sat_prog, sat_prog, Option.bind_some, Option.bind_some, sat_prog, sat_ref]
theorem sub_some (a b : Int) : fixed_Sub.f a b = some (sat (wrap64 (sat a - sat b))) := by
  unfold fixed_Sub.f
  rw [sat_prog, sat_prog, Option.bind_some, Option.bind_some, sat_prog, Option.bind_some]
theorem mean_same (a n : Int) : tocsinref01_Mean.f a n = fixed_Mean.f a n := by
  unfold tocsinref01_Mean.f fixed_Mean.f
  rw [sat_prog, sat_ref]
theorem mean_some (a n : Int) : ∃ r, fixed_Mean.f a n = some r := by
  unfold fixed_Mean.f
  rw [sat_prog, Option.bind_some]
  by_cases h : n < 1
  · exact ⟨0, by rw [if_pos h]⟩
  · exact ⟨_, by rw [if_neg h, if_neg (by omega)]⟩
theorem sum_prog (l : List Int) (hl : l.length ≤ 1000) : ∀ (d : Nat) (x acc : Int), 0 ≤ x → x ≤ l.length → (l.length : Int) - x = d →
    ∃ r, Ev (fun k => fixed_Sum.l0 k acc l (l.length : Int) x) r ∧ Ev (fun k => tocsinref01_Sum.l0 k l acc x) r := by
  intro d
  induction d with
  | zero =>
    intro x acc h0 h1 hd
    exact ⟨acc, Ev.step (fun k => by rw [fixed_Sum.l0, if_neg (by omega)]) (Ev.now _), Ev.step (fun k => by rw [tocsinref01_Sum.l0, if_neg (by omega)]) (Ev.now _)⟩
  | succ d ih =>
    intro x acc h0 h1 hd
    obtain ⟨r, ha, hb⟩ := ih (x + 1) (add acc (rd l x)) (by omega) (by omega) (by omega)
    refine ⟨r, Ev.step (fun k => by rw [fixed_Sum.l0, if_pos (by omega), if_pos h0, if_pos (by omega), add_prog, Option.bind_some, w64 (by omega) (by omega)]) ha, Ev.step (fun k => by rw [tocsinref01_Sum.l0, if_pos (by omega), if_pos h0, add_ref, Option.bind_some, w64 (by omega) (by omega)]) hb⟩
theorem last (a b n : Int) (l : List Int) (hl : l.length ≤ 1000) : ∀ (d : Nat) (x : Int), 0 ≤ x → x ≤ l.length → (l.length : Int) - x = d →
    Ev (fun k => tocsinlaw01_FixedCounts.l0 k a b l n l x) true := by
  intro d
  induction d with
  | zero =>
    intro x h0 h1 hd
    obtain ⟨r, hr⟩ := mean_some a n
    refine Ev.step (fun k => by rw [tocsinlaw01_FixedCounts.l0, if_neg (by omega), sat_prog, Option.bind_some, sat_ref, Option.bind_some, if_pos rfl, add_prog, Option.bind_some, add_ref, Option.bind_some, if_pos rfl, sub_same, sub_some, Option.bind_some, Option.bind_some, if_pos rfl, mean_same, hr, Option.bind_some, Option.bind_some, beq_self_eq_true]) (Ev.now _)
  | succ d ih =>
    intro x h0 h1 hd
    exact Ev.step (fun k => by rw [tocsinlaw01_FixedCounts.l0, if_pos (by omega), if_pos h0, if_pos (by omega), if_pos rfl, w64 (by omega) (by omega)]) (ih (x + 1) (by omega) (by omega) (by omega))
theorem FixedCounts : tocsinlaw01_FixedCounts.Pure := by
  intro a b l n _ _ _ _ _ _
  refine Ev.rounds ?_
  unfold tocsinlaw01_FixedCounts.f
  by_cases h : (l.length : Int) > 1000
  · exact ev_pos h (Ev.now _)
  · refine ev_neg h (ev_pos (by simp; omega) ?_)
    rw [List.nil_append]
    obtain ⟨r, ha, hb⟩ := sum_prog l (by omega) l.length 0 0 (by omega) (by omega) (by omega)
    exact Ev.bind (a := l) (Ev.now _) (Ev.bind ha (Ev.bind hb (ev_pos rfl (last a b n l (by omega) l.length 0 (by omega) (by omega) (by omega)))))
end Go.Proofs.Ytpmehejlamddeaa.Pure
