/- Plain laws of numbers: whole rounds; numbers kept within the bounds; sums. -/
import Derived.Test.YtpmehejlamddeaaDoorQ4
import Derived.Test.YtpmehejlamddeaaDoorQ4
import Derived.Test.YtpmehejlamddeaaDoorQ5
import Derived.Test.YtpmehejlamddeaaDoorQ5
import Derived.Test.YtpmehejlamddeaaDoorQ15
namespace Go.Proofs.YtpmehejlamddeaaDoor.Pure
open Go.RowKit Go.Proofs.YtpmehejlamddeaaDoorW.PrintWords Go.Proofs.YtpmehejlamddeaaDoorW.PrintLast Go.Proofs.YtpmehejlamddeaaDoorW.PrintMore Go.Proofs.YtpmehejlamddeaaDoor.Q
set_option linter.unusedVariables false
set_option linter.unusedSimpArgs false

theorem toNat_succ {x : Int} (h : 0 ≤ x) : (x + 1).toNat = x.toNat + 1 := by omega
theorem w64 {x : Int} (h0 : -9223372036854775808 ≤ x) (h1 : x ≤ 9223372036854775807) : wrap64 x = x := by unfold wrap64; omega
theorem ev_pos {α : Type} {c : Prop} [Decidable c] {A B : Nat → Option α} {r : α} (hc : c) (h : Ev A r) : Ev (fun k => if c then A k else B k) r := Ev.congr (fun _ => if_pos hc) h
theorem ev_neg {α : Type} {c : Prop} [Decidable c] {A B : Nat → Option α} {r : α} (hc : ¬ c) (h : Ev B r) : Ev (fun k => if c then A k else B k) r := Ev.congr (fun _ => if_neg hc) h
theorem ev_some {α : Type} {a r : α} (h : a = r) : Ev (fun _ => some a) r := by rw [h]; exact Ev.now _
theorem ev_bsome {α β : Type} {a : α} {F : Nat → α → Option β} {r : β} (h : Ev (fun k => F k a) r) : Ev (fun k => (some a).bind (F k)) r := h
/-- A number kept within the bounds. -/
def sat (x : Int) : Int := mn (mx x (-4611686018427387903)) 4611686018427387903
theorem sat_f (x : Int) : fixed_Sat.f x = some (sat x) := rfl
theorem sat_cases (x : Int) : (x > 4611686018427387903 ∧ sat x = 4611686018427387903) ∨ (x < -4611686018427387903 ∧ sat x = -4611686018427387903) ∨ (-4611686018427387903 ≤ x ∧ x ≤ 4611686018427387903 ∧ sat x = x) := by
  unfold sat mn mx
  by_cases h1 : x < -4611686018427387903
  · rw [if_pos h1]
    exact .inr (.inl ⟨h1, rfl⟩)
  · rw [if_neg h1]
    by_cases h2 : (4611686018427387903 : Int) < x
    · rw [if_pos h2]; exact .inl ⟨h2, rfl⟩
    · rw [if_neg h2]; exact .inr (.inr ⟨by omega, by omega, rfl⟩)
theorem sat_range (x : Int) : -4611686018427387903 ≤ sat x ∧ sat x ≤ 4611686018427387903 := by
  rcases sat_cases x with ⟨_, h⟩ | ⟨_, h⟩ | ⟨_, _, h⟩ <;> omega
theorem sat_id {x : Int} (h0 : -4611686018427387903 ≤ x) (h1 : x ≤ 4611686018427387903) : sat x = x := by
  rcases sat_cases x with ⟨_, h⟩ | ⟨_, h⟩ | ⟨_, _, h⟩ <;> omega
def addL (a b : Int) : Int := sat (sat a + sat b)
theorem add_f (a b : Int) : fixed_Add.f a b = some (addL a b) := by
  have h1 := sat_range a
  have h2 := sat_range b
  unfold fixed_Add.f addL
  rw [sat_f, Option.bind_some, sat_f, Option.bind_some, w64 (by omega) (by omega), sat_f, Option.bind_some]
def sumL (acc : Int) (l : List Int) : Int := l.foldl addL acc
theorem rd_drop (l : List Int) (x : Int) (h0 : 0 ≤ x) (h : x < l.length) : l.drop x.toNat = rd l x :: l.drop (x + 1).toNat := by
  have h2 : x.toNat < l.length := by omega
  unfold rd
  rw [List.getD_eq_getElem?_getD, List.getElem?_eq_getElem h2, toNat_succ h0]
  exact List.drop_eq_getElem_cons h2
theorem sum_l0 (l : List Int) (hl : l.length ≤ 1000000) : ∀ (d : Nat) (x acc : Int), 0 ≤ x → x ≤ l.length → (l.length : Int) - x = d → Ev (fun k => fixed_Sum.l0 k acc l l.length x) (sumL acc (l.drop x.toNat)) := by
  intro d
  induction d with
  | zero =>
    intro x acc h0 h1 hd
    rw [List.drop_eq_nil_of_le (by omega)]
    exact Ev.step (f := fun _ => some acc) (fun k => by rw [fixed_Sum.l0, if_neg (by omega)]) (Ev.now _)
  | succ d ih =>
    intro x acc h0 h1 hd
    have hx : x < l.length := by omega
    rw [rd_drop l x h0 hx]
    exact Ev.step (fun k => by rw [fixed_Sum.l0, if_pos hx, if_pos h0, if_pos hx, add_f, Option.bind_some, w64 (x := x + 1) (by omega) (by omega)]) (ih (x + 1) (addL acc (rd l x)) (by omega) (by omega) (by omega))
theorem sum_ev (l : List Int) (hl : l.length ≤ 1000000) : Ev (fun k => fixed_Sum.f k l) (sumL 0 l) := by
  have := sum_l0 l hl l.length 0 0 (by omega) (by omega) (by omega)
  simpa [fixed_Sum.f] using this
def Within (x : Int) : Prop := -4611686018427387903 ≤ x ∧ x ≤ 4611686018427387903
theorem within_f (x : Int) : tocsinlaw01_within.f x = some (decide (-4611686018427387903 ≤ x ∧ x ≤ 4611686018427387903)) := by
  unfold tocsinlaw01_within.f
  by_cases a : x ≥ (-4611686018427387903)
  · rw [if_pos a]
    have a' : -4611686018427387903 ≤ x := a
    simp [a']
  · rw [if_neg a]
    have a' : ¬ (-4611686018427387903 ≤ x) := a
    simp [a']
theorem within_true {x : Int} (h : Within x) : tocsinlaw01_within.f x = some true := by
  rw [within_f, decide_eq_true (p := -4611686018427387903 ≤ x ∧ x ≤ 4611686018427387903) h]
theorem sum_within : ∀ (l : List Int) (acc : Int), Within acc → Within (sumL acc l)
  | [], acc, h => h
  | x :: l, acc, h => sum_within l (addL acc x) (sat_range _)
def subL (a b : Int) : Int := sat (sat a - sat b)
theorem sub_f (a b : Int) : fixed_Sub.f a b = some (subL a b) := by
  have h1 := sat_range a
  have h2 := sat_range b
  unfold fixed_Sub.f subL
  rw [sat_f, Option.bind_some, sat_f, Option.bind_some, w64 (by omega) (by omega), sat_f, Option.bind_some]
end Go.Proofs.YtpmehejlamddeaaDoor.Pure
