/- Plain laws of two rows of labels held against each other; of rows that are too great. -/
import Derived.Test.YtiicfejaoilfcaaQ5
import Derived.Test.YtiicfejaoilfcaaQ3
import Derived.Test.YtiicfejaoilfcaaQ4
import Derived.Test.YtiicfejaoilfcaaQ2
namespace Go.Proofs.Ytiicfejaoilfcaa.Pure
open Go.RowKit Go.Proofs.YtiicfejaoilfcaaW.PrintWords Go.Proofs.YtiicfejaoilfcaaW.PrintLast Go.Proofs.Ytiicfejaoilfcaa.Q
set_option linter.unusedVariables false
set_option linter.unusedSimpArgs false

theorem w64 {x : Int} (h0 : -9223372036854775808 ≤ x) (h1 : x ≤ 9223372036854775807) : wrap64 x = x := by unfold wrap64; omega

theorem ev_pos {α : Type} {c : Prop} [Decidable c] {A B : Nat → Option α} {r : α} (hc : c) (h : Ev A r) : Ev (fun k => if c then A k else B k) r := Ev.congr (fun _ => if_pos hc) h
theorem ev_neg {α : Type} {c : Prop} [Decidable c] {A B : Nat → Option α} {r : α} (hc : ¬ c) (h : Ev B r) : Ev (fun k => if c then A k else B k) r := Ev.congr (fun _ => if_neg hc) h
theorem ev_some {α : Type} {a r : α} (h : a = r) : Ev (fun _ => some a) r := by rw [h]; exact Ev.now _
theorem ev_bsome {α β : Type} {a : α} {F : Nat → α → Option β} {r : β} (h : Ev (fun k => F k a) r) : Ev (fun k => (some a).bind (F k)) r := h
theorem ev_unique {α : Type} {g : Nat → Option α} {r q : α} (h : Ev g r) (k : Ev g q) : r = q := by
  obtain ⟨K, h⟩ := h
  obtain ⟨K', k⟩ := k
  exact Option.some.inj ((h (max K K') (by omega)).symm.trans (k (max K K') (by omega)))
theorem refless_ev (a b : List S31) (ha : a.length ≤ 9223372036854775807) (hb : b.length ≤ 9223372036854775807) :
    ∀ (d : Nat) (x : Int), 0 ≤ x → x ≤ a.length → x ≤ b.length → (a.length : Int) - x = d → Ev (fun k => tocsinref07_Less.l0 k a b x) (lessL (a.drop x.toNat) (b.drop x.toNat)) := by
  intro d
  induction d with
  | zero =>
    intro x h0 h1 h2 hd
    rw [lessL_end h0 (by omega) h1 h2]
    apply Ev.step
    · intro k
      rw [tocsinref07_Less.l0, if_neg (by omega)]
    · apply Ev.step
      · intro k
        rw [tocsinref07_Less.j1, if_neg (by simp)]
      · exact Ev.now _
  | succ d ih =>
    intro x h0 h1 h2 hd
    have hxa : x < a.length := by omega
    by_cases hxb : x < b.length
    · cases he : eqS (rd_T31 a x) (rd_T31 b x) with
      | true =>
        rw [lessL_step h0 hxa hxb he]
        unfold eqS at he
        rw [Bool.and_eq_true, beq_iff_eq, beq_iff_eq] at he
        apply Ev.step
        · intro k
          rw [tocsinref07_Less.l0, if_pos hxa]
        · apply Ev.step
          · intro k
            rw [tocsinref07_Less.j1, if_pos (decide_eq_true hxb), if_pos h0, if_pos hxa, if_pos hxb, if_pos he.1, if_pos he.2, w64 (by omega) (by omega)]
          · exact ih (x + 1) (by omega) (by omega) (by omega) (by omega)
      | false =>
        rw [lessL_stop h0 hxa hxb he]
        unfold eqS at he
        rw [Bool.and_eq_false_iff, beq_eq_false_iff_ne, beq_eq_false_iff_ne] at he
        apply Ev.step
        · intro k
          rw [tocsinref07_Less.l0, if_pos hxa]
        · apply Ev.step
          · intro k
            rw [tocsinref07_Less.j1, if_pos (decide_eq_true hxb), if_pos h0, if_pos hxa, if_pos hxb]
          · unfold ltS
            by_cases h3 : (rd_T31 a x).f0.toList = (rd_T31 b x).f0.toList
            · have h4 : (rd_T31 a x).f1.toList ≠ (rd_T31 b x).f1.toList := he.resolve_left (fun h => h h3)
              simp only [if_pos h3, if_neg h4]
              rw [if_neg (by rw [h3, Opn.bl_irrefl]; simp)]
              exact Ev.now _
            · simp only [if_neg h3]
              refine Ev.congr (fun _ => ?_) (Ev.now _)
              cases Op.bytesLess (rd_T31 a x).f0.toList (rd_T31 b x).f0.toList <;> simp
    · rw [lessL_end h0 (by omega) h1 h2]
      apply Ev.step
      · intro k
        rw [tocsinref07_Less.l0, if_pos hxa]
      · apply Ev.step
        · intro k
          rw [tocsinref07_Less.j1, if_neg (by simpa using hxb)]
        · exact Ev.now _
theorem refless (a b : List S31) (ha : a.length ≤ 9223372036854775807) (hb : b.length ≤ 9223372036854775807) : Ev (fun k => tocsinref07_Less.f k a b) (lessL a b) := by
  have h := refless_ev a b ha hb a.length 0 (by omega) (by omega) (by omega) (by omega)
  exact h

/-- A row that is gone through: at most 100 labels; no name and no value of more than 5000 bytes. -/
def Small (l : List S31) : Prop := l.length ≤ 100 ∧ ∀ y ∈ l, y.f0.size ≤ 5000 ∧ y.f1.size ≤ 5000
theorem rd_mem {l : List S31} {x : Int} (h0 : 0 ≤ x) (h1 : x < l.length) : rd_T31 l x ∈ l := by
  unfold rd_T31
  have h : x.toNat < l.length := by omega
  rw [List.getD_eq_getElem?_getD, List.getElem?_eq_getElem h]
  exact List.getElem_mem h
theorem great_ev (l : List S31) (hl : l.length ≤ 100) (hg : ∀ y ∈ l, good31 y) :
    ∀ (d : Nat) (left x : Int), 0 ≤ x → x ≤ l.length → 0 ≤ left → left ≤ 5000 → (l.length : Int) - x = d →
      (∀ j : Nat, (j : Int) < x → (rd_T31 l j).f0.size ≤ 5000 ∧ (rd_T31 l j).f1.size ≤ 5000) → ∃ r, Ev (fun k => tocsinlaw07_great.l0 k l left x) r ∧ (r = false → ∀ j : Nat, j < l.length → (rd_T31 l j).f0.size ≤ 5000 ∧ (rd_T31 l j).f1.size ≤ 5000) := by
  intro d
  induction d with
  | zero =>
    intro left x h0 h1 h2 h3 hd hj
    refine ⟨false, ?_, fun _ j h => hj j (by omega)⟩
    apply Ev.step
    · intro k
      rw [tocsinlaw07_great.l0, if_neg (by omega)]
    · exact Ev.now _
  | succ d ih =>
    intro left x h0 h1 h2 h3 hd hj
    have hx : x < l.length := by omega
    have hgo := hg _ (rd_mem h0 hx)
    unfold good31 at hgo
    by_cases c1 : ((rd_T31 l x).f0.size : Int) > left
    · refine ⟨true, ?_, fun h => by cases h⟩
      apply Ev.step
      · intro k
        rw [tocsinlaw07_great.l0, if_pos hx, if_pos h0, if_pos c1]
      · exact Ev.now _
    · have hw : wrap64 (left - ((rd_T31 l x).f0.size : Int)) = left - ((rd_T31 l x).f0.size : Int) := w64 (by omega) (by omega)
      by_cases c2 : ((rd_T31 l x).f1.size : Int) > left - ((rd_T31 l x).f0.size : Int)
      · refine ⟨true, ?_, fun h => by cases h⟩
        apply Ev.step
        · intro k
          rw [tocsinlaw07_great.l0, if_pos hx, if_pos h0, if_neg c1, hw, if_pos c2]
        · exact Ev.now _
      · obtain ⟨r, hr, hk⟩ := ih (left - ((rd_T31 l x).f0.size : Int) - ((rd_T31 l x).f1.size : Int)) (x + 1) (by omega) (by omega) (by omega) (by omega) (by omega) (fun j hjj => by
          rcases Int.lt_or_eq_of_le (Int.lt_add_one_iff.1 hjj) with h | h
          · exact hj j h
          · rw [h]
            omega)
        refine ⟨r, ?_, hk⟩
        apply Ev.step
        · intro k
          rw [tocsinlaw07_great.l0, if_pos hx, if_pos h0, if_neg c1, hw, if_neg c2, w64 (by omega) (by omega), w64 (by omega) (by omega)]
        · exact hr
theorem great (l : List S31) (hg : ∀ y ∈ l, good31 y) : ∃ r, Ev (fun k => tocsinlaw07_great.f k l) r ∧ (r = false → Small l) := by
  by_cases h : (l.length : Int) > 100
  · refine ⟨true, Ev.congr (fun k => ?_) (Ev.now _), fun h => by cases h⟩
    rw [tocsinlaw07_great.f, if_pos h]
  · obtain ⟨r, hr, hk⟩ := great_ev l (by omega) hg l.length 5000 0 (by omega) (by omega) (by omega) (by omega) (by omega) (fun j h => by omega)
    refine ⟨r, Ev.congr (fun k => ?_) hr, fun hf => ⟨by omega, fun y hy => ?_⟩⟩
    · rw [tocsinlaw07_great.f, if_neg h]
    · obtain ⟨j, hj, rfl⟩ := List.getElem_of_mem hy
      have := hk hf j hj
      simpa [rd_T31, List.getElem?_eq_getElem hj] using this
end Go.Proofs.Ytiicfejaoilfcaa.Pure
